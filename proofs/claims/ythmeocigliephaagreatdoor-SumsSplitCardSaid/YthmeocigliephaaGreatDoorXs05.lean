/- Parts of the proof, behind one another; unused words are left out. -/
import Derived.Test.YthmeocigliephaaGreatDoorXs04
set_option linter.unusedVariables false
set_option linter.unusedSimpArgs false
set_option linter.unusedSectionVars false
set_option exponentiation.threshold 100000
set_option maxRecDepth 100000
set_option maxHeartbeats 8000000
open Go.RowKit Go.Proofs.YthmeocigliephaaGreatDoorW.PrintWords Go.Proofs.YthmeocigliephaaGreatDoorW.PrintLast Go.Proofs.YthmeocigliephaaGreatDoorW.PrintMore
section
namespace Go.Proofs.YthmeocigliephaaGreatDoor.PSv
open Go.Proofs.YthmeocigliephaaGreatDoor.PSu Go.RowKit Go.Proofs.YthmeocigliephaaGreatDoorW.PrintWords Go.Proofs.YthmeocigliephaaGreatDoorW.PrintLast Go.Proofs.YthmeocigliephaaGreatDoorW.PrintMore
attribute [local go_sem] f64bits_run f64from_run run_float_some max2_int min2_int max_two min_two max_three min_three max_four min_four
def cuspref02_magnitude.j0 : Nat → Bool → Bool → List Int → Int → Bool → List Int → Int → Option (Int)
 | 0, _, _, _, _, _, _, _ => none
 | k + 1, x6, x191000, x191001, x191002, x192000, x192001, x192002 => if x6 = true then (some (wrap64 ((x191001.length : Int) - (x192001.length : Int)))) else ((cuspref02_High.f k x191000 x191001 x191002).bind fun t192 => ((cuspref02_High.f k x192000 x192001 x192002).bind fun t193 => (if t192 = t193 then ((cuspref02_up.f k x191001 (wrap64 (x191002 - (mn x191002 x192002)))).bind fun t194 => ((cuspref02_up.f k x192001 (wrap64 (x192002 - (mn x191002 x192002)))).bind fun t197 => ((cuspref02_order.f k t194 t197).bind fun t200 => (some t200)))) else ((cuspref02_High.f k x191000 x191001 x191002).bind fun t201 => ((cuspref02_High.f k x192000 x192001 x192002).bind fun t202 => (some (wrap64 (t201 - t202))))))))
def cuspref02_magnitude.f (k : Nat) (a0_0 : Bool) (l0_1 : List Int) (a0_2 : Int) (a1_0 : Bool) (l1_1 : List Int) (a1_2 : Int) : Option (Int) := if (l0_1.length : Int) = 0 then (cuspref02_magnitude.j0 k true a0_0 l0_1 a0_2 a1_0 l1_1 a1_2) else (cuspref02_magnitude.j0 k ((l1_1.length : Int) == 0) a0_0 l0_1 a0_2 a1_0 l1_1 a1_2)
theorem cuspref02_magnitude.mono_l : ∀ k, (∀ y0 y1 y2 y3 y4 y5 y6, LeO (cuspref02_magnitude.j0 k y0 y1 y2 y3 y4 y5 y6) (cuspref02_magnitude.j0 (k + 1) y0 y1 y2 y3 y4 y5 y6))
 | 0 => fun _ _ _ _ _ _ _ r h => by simp [cuspref02_magnitude.j0] at h
 | k + 1 => by
  have ih0 := cuspref02_magnitude.mono_l k
  ·intro y0 y1 y2 y3 y4 y5 y6
   unfold cuspref02_magnitude.j0
   repeat' first
   | (with_reducible exact ih0 _ _ _ _ _ _ _)
   | (with_reducible exact cuspref02_High.mono _ _ _ _)
   | (with_reducible exact cuspref02_order.mono _ _ _)
   | (with_reducible exact cuspref02_up.mono _ _ _)
   | (with_reducible exact LeO.refl _)
   | (with_reducible exact LeO.none _)
   | (with_reducible refine LeO.ite ?_ ?_)
   | (with_reducible refine LeO.bind ?_ (fun _ => ?_))
   | exact ih0 _ _ _ _ _ _ _
   | exact cuspref02_High.mono _ _ _ _
   | exact cuspref02_order.mono _ _ _
   | exact cuspref02_up.mono _ _ _
   | exact LeO.none _
   | refine LeO.ite ?_ ?_
   | refine LeO.bind ?_ (fun _ => ?_)
theorem cuspref02_magnitude.mono : ∀ a0 a1 a2 a3 a4 a5 k, LeO (cuspref02_magnitude.f k a0 a1 a2 a3 a4 a5) (cuspref02_magnitude.f (k + 1) a0 a1 a2 a3 a4 a5) := by
 intro a0 a1 a2 a3 a4 a5 k
 have ih0 := cuspref02_magnitude.mono_l k
 unfold cuspref02_magnitude.f
 repeat' first
   | (with_reducible exact ih0 _ _ _ _ _ _ _)
   | (with_reducible exact cuspref02_High.mono _ _ _ _)
   | (with_reducible exact cuspref02_order.mono _ _ _)
   | (with_reducible exact cuspref02_up.mono _ _ _)
   | (with_reducible exact LeO.refl _)
   | (with_reducible exact LeO.none _)
   | (with_reducible refine LeO.ite ?_ ?_)
   | (with_reducible refine LeO.bind ?_ (fun _ => ?_))
   | exact ih0 _ _ _ _ _ _ _
   | exact cuspref02_High.mono _ _ _ _
   | exact cuspref02_order.mono _ _ _
   | exact cuspref02_up.mono _ _ _
   | exact LeO.none _
   | refine LeO.ite ?_ ?_
   | refine LeO.bind ?_ (fun _ => ?_)
def cuspref02_magnitude.T6 : Bool × List (List Nat × List Nat) := (true, [([], []), ([0], [0]), ([], []), ([2], [2]), ([], []), ([3, 4], [3, 4]), ([1, 5], [1, 5]), ([], []), ([7], [7]), ([], []), ([9], [9]), ([], []), ([10, 11], [10, 11]), ([8, 12, 6], [8, 12]), ([6, 13, 13], [6, 13]), ([14, 14, 0, 1, 2, 3, 4, 5, 6, 7, 8, 9, 10, 11, 12, 13, 14], [14])])
def cuspref02_magnitude.B6 : List Nat := [0, 1, 0, 4, 0, 28, 63, 0, 128, 0, 512, 0, 3584, 8191, 16383, 32767]
theorem cuspref02_magnitude.tab6 : rtab .any (opsOf Tryz.f70 6) = cuspref02_magnitude.T6 := by kernel_rfl
theorem cuspref02_magnitude.bits6 : waitsOk cuspref02_magnitude.T6.2 cuspref02_magnitude.B6 = true := by kernel_rfl
theorem cuspref02_magnitude.calls (k : Nat) (a0_0 : Bool) (A0_1 : Option Addr) (c0_1 : Nat) (l0_1 : List Int) (a0_2 : Int) (a1_0 : Bool) (A1_1 : Option Addr) (c1_1 : Nat) (l1_1 : List Int) (a1_2 : Int) (r : Int) (w : World) (hr0_1 : Kd.C (Kd.int .u32) w A0_1 l0_1.length l0_1) (hc0_1 : l0_1.length ≤ c0_1) (hr1_1 : Kd.C (Kd.int .u32) w A1_1 l1_1.length l1_1) (hc1_1 : l1_1.length ≤ c1_1) (h : cuspref02_magnitude.f k a0_0 l0_1 a0_2 a1_0 l1_1 a1_2 = some r) :
  Calls Tryz.prog 70 #[.agg #[.bool a0_0, .slice A0_1 l0_1.length c0_1, .int .i64 a0_2], .agg #[.bool a1_0, .slice A1_1 l1_1.length c1_1, .int .i64 a1_2]] w fun e w' => e = .returned (.int .i64 r) ∧ Below w.heap.size w w' := by
 have hu41 := Tryz.underlying41
 have HR0_1 := asd hr0_1
 have HC0_1 := asd hc0_1
 clear hr0_1 hc0_1
 have HR1_1 := asd hr1_1
 have HC1_1 := asd hc1_1
 clear hr1_1 hc1_1
 have HB := asd (Below.refl w.heap.size w)
 have H : (if (l0_1.length : Int) = 0 then (cuspref02_magnitude.j0 k true a0_0 l0_1 a0_2 a1_0 l1_1 a1_2) else (cuspref02_magnitude.j0 k ((l1_1.length : Int) == 0) a0_0 l0_1 a0_2 a1_0 l1_1 a1_2)) = some r := h
 clear h
 have HC3 := asd H
 clear H
 go_enter Tryz.func70, Tryz.ntmps70
 go_upto_region 1 with (first | ((with_reducible refine gate_dst (N := 2) rfl ?_); (try (refine gate_guard (by rfl) ?_; dsimp only)); refine box_event ?hg (N := 2) ?hd (cs := #[.bool a0_0, .slice A0_1 l0_1.length c0_1, .int .i64 a0_2]) (t := 41) ?hr ?_; (case hd => rfl); (case hg => rfl); (case hr => first | (go_simp; done) | (go_simp; rfl)); intro gb190 hg w4 hbox hb; have n0_ := asd (below_step hbw hb); have n1_ := asd (hbox); have n2_ := asd ((by rw [hg]; exact (below_size hbw) : w.heap.size ≤ gb190)); have n3_ := asd ((by rw [hg]; exact (below_size hbw) : w.heap.size ≤ gb190)); clear HB; have HB := n0_; have BK190 := n1_; have GW190 := n2_; have GE190 := n3_; clear n0_ n1_ n2_ n3_; clear hb hbox hg) | ((with_reducible refine gate_dst (N := 3) rfl ?_); (try (refine gate_guard (by rfl) ?_; dsimp only)); refine box_event ?hg (N := 3) ?hd (cs := #[.bool a1_0, .slice A1_1 l1_1.length c1_1, .int .i64 a1_2]) (t := 41) ?hr ?_; (case hd => rfl); (case hg => rfl); (case hr => first | (go_simp; done) | (go_simp; rfl)); intro gb191 hg w5 hbox hb; have n0_ := asd (blk_below (g := gb190) (o := .cells #[.bool a0_0, .slice A0_1 l0_1.length c0_1, .int .i64 a0_2] 41 (0, 0)) (blkU BK190.out) hb); have n1_ := asd (below_step (by repeat (first | (with_reducible first | exact HB.out | apply below_alloc | apply pw_below_drewN | apply below_drew1 | refine below_set ?_ GE190.out) | exact HB.out)) hb); have n2_ := asd (hbox); have n3_ := asd ((by rw [hg]; exact (below_size (by repeat (first | (with_reducible first | exact HB.out | apply below_alloc | apply pw_below_drewN | apply below_drew1 | refine below_set ?_ GE190.out) | exact HB.out))) : w.heap.size ≤ gb191)); have n4_ := asd ((by rw [hg]; exact (below_size (by repeat (first | (with_reducible first | exact HB.out | apply below_alloc | apply pw_below_drewN | apply below_drew1 | refine below_set ?_ GE190.out) | exact HB.out))) : w.heap.size ≤ gb191)); have n5_ := asd ((by rw [hg]; exact Nat.ne_of_lt (blk_lt (g := gb190) (o := .cells #[.bool a0_0, .slice A0_1 l0_1.length c0_1, .int .i64 a0_2] 41 (0, 0)) (blkU BK190.out)) : gb190 ≠ gb191)); have n6_ := asd ((by rw [hg]; exact Nat.ne_of_gt (blk_lt (g := gb190) (o := .cells #[.bool a0_0, .slice A0_1 l0_1.length c0_1, .int .i64 a0_2] 41 (0, 0)) (blkU BK190.out)) : gb191 ≠ gb190)); clear BK190; clear HB; have BK190 := n0_; have HB := n1_; have BK191 := n2_; have GW191 := n3_; have GE191 := n4_; have NB190_191 := n5_; have NB191_190 := n6_; clear n0_ n1_ n2_ n3_ n4_ n5_ n6_; clear hb hbox hg))
 (try simp only [Act.put, List.setIfInBounds_toArray, List.set_cons_zero, List.set_cons_succ])
 go_cut [6] (fun v6 wc => ∃ (kq : Nat) (x6_2 : Bool), v6 = .bool x6_2 ∧ Aside0 (cuspref02_magnitude.j0 kq x6_2 a0_0 l0_1 a0_2 a1_0 l1_1 a1_2 = some r) ∧ Aside0 (kq ≤ k) ∧ Aside0 (wc.heap[gb190]? = some (.cells #[.bool a0_0, (.slice A0_1 l0_1.length c0_1), .int .i64 a0_2] 41 (0, 0))) ∧ Aside0 (wc.heap[gb191]? = some (.cells #[.bool a1_0, (.slice A1_1 l1_1.length c1_1), .int .i64 a1_2] 41 (0, 0))) ∧ Aside0 (Below w.heap.size w wc))
 case first =>
  have H := HC3.out
  clear HC3
  by_cases c6 : (l0_1.length : Int) = 0
  ·rw [if_pos c6] at H
   have c6b0 : ((l0_1.length : Int) == 0) = true := beq_iff_eq.mpr c6
   have c6b1 : ((l0_1.length : Int) != 0) = false := bne_eq_false_iff_eq.mpr c6
   clear c6
   (first | rw [c6b0] | (simp only [i64_w, i32_w]; rw [c6b0]) | skip)
   have H' := asd H
   clear H
   have hnb7 := NB190_191.out
   have hnc7 := NB191_190.out
   have hcz8_0 : w5.cell? ⟨gb190, 0, none⟩ = some (.bool a0_0) := (blk_cell BK190.out 0).trans rfl
   have hcz8_1 : w5.cell? ⟨gb190, 1, none⟩ = some (.slice A0_1 l0_1.length c0_1) := (blk_cell BK190.out 1).trans rfl
   have hcz8_2 : w5.cell? ⟨gb190, 2, none⟩ = some (.int .i64 a0_2) := (blk_cell BK190.out 2).trans rfl
   have hfz8_0 := blk_frozen BK190.out 0
   have hfz8_1 := blk_frozen BK190.out 1
   have hfz8_2 := blk_frozen BK190.out 2
   go_wp2
   go_meet
   case rel => exact ⟨_, (true), eqB, H', ⟨by first | omega | exact Nat.le_refl _⟩, ⟨by (with_reducible repeat (first | refine blk_drewN ?_ _ | refine blk_drew ?_ | refine blk_alloc ?_ _)); exact BK190.out⟩, ⟨by (with_reducible repeat (first | refine blk_drewN ?_ _ | refine blk_drew ?_ | refine blk_alloc ?_ _)); exact BK191.out⟩, ⟨by repeat (first | (with_reducible first | exact HB.out | apply below_alloc | apply pw_below_drewN | apply below_drew1 | refine below_set ?_ GE190.out | refine below_set ?_ GE191.out) | exact HB.out)⟩⟩
  ·rw [if_neg c6] at H
   have c6b0 : ((l0_1.length : Int) == 0) = false := beq_eq_false_iff_ne.mpr c6
   have c6b1 : ((l0_1.length : Int) != 0) = true := bne_iff_ne.mpr c6
   have c6b2 : ¬ (l0_1 = []) := fun h_ => c6 (by rw [h_]; rfl)
   (first | rw [c6b0] | (simp only [i64_w, i32_w]; rw [c6b0]) | skip)
   have H' := asd H
   clear H
   have hnb9 := NB190_191.out
   have hnc9 := NB191_190.out
   have hcz10_0 : w5.cell? ⟨gb190, 0, none⟩ = some (.bool a0_0) := (blk_cell BK190.out 0).trans rfl
   have hcz10_1 : w5.cell? ⟨gb190, 1, none⟩ = some (.slice A0_1 l0_1.length c0_1) := (blk_cell BK190.out 1).trans rfl
   have hcz10_2 : w5.cell? ⟨gb190, 2, none⟩ = some (.int .i64 a0_2) := (blk_cell BK190.out 2).trans rfl
   have hfz10_0 := blk_frozen BK190.out 0
   have hfz10_1 := blk_frozen BK190.out 1
   have hfz10_2 := blk_frozen BK190.out 2
   have hcz11_0 : w5.cell? ⟨gb191, 0, none⟩ = some (.bool a1_0) := (blk_cell BK191.out 0).trans rfl
   have hcz11_1 : w5.cell? ⟨gb191, 1, none⟩ = some (.slice A1_1 l1_1.length c1_1) := (blk_cell BK191.out 1).trans rfl
   have hcz11_2 : w5.cell? ⟨gb191, 2, none⟩ = some (.int .i64 a1_2) := (blk_cell BK191.out 2).trans rfl
   have hfz11_0 := blk_frozen BK191.out 0
   have hfz11_1 := blk_frozen BK191.out 1
   have hfz11_2 := blk_frozen BK191.out 2
   go_wp2
   go_meet
   case rel => exact ⟨_, (((l1_1.length : Int) == 0)), eqB, H', ⟨by first | omega | exact Nat.le_refl _⟩, ⟨by (with_reducible repeat (first | refine blk_drewN ?_ _ | refine blk_drew ?_ | refine blk_alloc ?_ _)); exact BK190.out⟩, ⟨by (with_reducible repeat (first | refine blk_drewN ?_ _ | refine blk_drew ?_ | refine blk_alloc ?_ _)); exact BK191.out⟩, ⟨by repeat (first | (with_reducible first | exact HB.out | apply below_alloc | apply pw_below_drewN | apply below_drew1 | refine below_set ?_ GE190.out | refine below_set ?_ GE191.out) | exact HB.out)⟩⟩
 case rest =>
  clear HC3
  try clear c1
  try clear p2
  try clear c6
  try clear c6b0
  try clear c6b1
  try clear c6b2
  try clear c7
  try clear c9
  try clear hcz10_0
  try clear hcz10_1
  try clear hcz10_2
  try clear hcz11_0
  try clear hcz11_1
  try clear hcz11_2
  try clear hcz8_0
  try clear hcz8_1
  try clear hcz8_2
  try clear hfz10_0
  try clear hfz10_1
  try clear hfz10_2
  try clear hfz11_0
  try clear hfz11_1
  try clear hfz11_2
  try clear hfz8_0
  try clear hfz8_1
  try clear hfz8_2
  obtain ⟨kq, x6_2, rfl, HA, HJ2, BK190, BK191, HB⟩ := hcut
  cases kq with
  | zero => exact absurd HA.out (by simp [cuspref02_magnitude.j0])
  | succ kj2 =>
   have H := HA.out
   clear HA
   simp only [cuspref02_magnitude.j0] at H
   by_cases c12 : x6_2 = true
   ·subst c12
    have H1 : (some (wrap64 ((l0_1.length : Int) - (l1_1.length : Int)))) = some r := by rw [if_pos rfl] at H; exact H
    clear H
    have H := H1
    clear H1
    obtain rfl := Option.some.inj H
    have hnb13 := NB190_191.out
    have hnc13 := NB191_190.out
    have hcz14_0 : wc.cell? ⟨gb190, 0, none⟩ = some (.bool a0_0) := (blk_cell BK190.out 0).trans rfl
    have hcz14_1 : wc.cell? ⟨gb190, 1, none⟩ = some (.slice A0_1 l0_1.length c0_1) := (blk_cell BK190.out 1).trans rfl
    have hcz14_2 : wc.cell? ⟨gb190, 2, none⟩ = some (.int .i64 a0_2) := (blk_cell BK190.out 2).trans rfl
    have hfz14_0 := blk_frozen BK190.out 0
    have hfz14_1 := blk_frozen BK190.out 1
    have hfz14_2 := blk_frozen BK190.out 2
    have hcz15_0 : wc.cell? ⟨gb191, 0, none⟩ = some (.bool a1_0) := (blk_cell BK191.out 0).trans rfl
    have hcz15_1 : wc.cell? ⟨gb191, 1, none⟩ = some (.slice A1_1 l1_1.length c1_1) := (blk_cell BK191.out 1).trans rfl
    have hcz15_2 : wc.cell? ⟨gb191, 2, none⟩ = some (.int .i64 a1_2) := (blk_cell BK191.out 2).trans rfl
    have hfz15_0 := blk_frozen BK191.out 0
    have hfz15_1 := blk_frozen BK191.out 1
    have hfz15_2 := blk_frozen BK191.out 2
    go_wp2
    go_ret
    exact ⟨eqC, by repeat (first | (with_reducible first | exact HB.out | apply below_alloc | apply pw_below_drewN | apply below_drew1 | refine below_set ?_ GE190.out | refine below_set ?_ GE191.out) | exact HB.out)⟩
   ·replace c12 := Bool.eq_false_iff.mpr c12
    subst c12
    have H1 : ((cuspref02_High.f kj2 a0_0 l0_1 a0_2).bind fun t192 => ((cuspref02_High.f kj2 a1_0 l1_1 a1_2).bind fun t193 => (if t192 = t193 then ((cuspref02_up.f kj2 l0_1 (wrap64 (a0_2 - (mn a0_2 a1_2)))).bind fun t194 => ((cuspref02_up.f kj2 l1_1 (wrap64 (a1_2 - (mn a0_2 a1_2)))).bind fun t197 => ((cuspref02_order.f kj2 t194 t197).bind fun t200 => (some t200)))) else ((cuspref02_High.f kj2 a0_0 l0_1 a0_2).bind fun t201 => ((cuspref02_High.f kj2 a1_0 l1_1 a1_2).bind fun t202 => (some (wrap64 (t201 - t202)))))))) = some r := by rw [if_neg (show ¬ (false = true) by decide)] at H; exact H
    clear H
    have H := H1
    clear H1
    replace H := Option.bind_eq_some_iff.mp H
    obtain ⟨t192, A160, H⟩ := H
    replace H : ((cuspref02_High.f kj2 a1_0 l1_1 a1_2).bind fun t193 => (if t192 = t193 then ((cuspref02_up.f kj2 l0_1 (wrap64 (a0_2 - (mn a0_2 a1_2)))).bind fun t194 => ((cuspref02_up.f kj2 l1_1 (wrap64 (a1_2 - (mn a0_2 a1_2)))).bind fun t197 => ((cuspref02_order.f kj2 t194 t197).bind fun t200 => (some t200)))) else ((cuspref02_High.f kj2 a0_0 l0_1 a0_2).bind fun t201 => ((cuspref02_High.f kj2 a1_0 l1_1 a1_2).bind fun t202 => (some (wrap64 (t201 - t202))))))) = some r := H
    have A16 := asd A160
    clear A160
    replace H := Option.bind_eq_some_iff.mp H
    obtain ⟨t193, A170, H⟩ := H
    replace H : (if t192 = t193 then ((cuspref02_up.f kj2 l0_1 (wrap64 (a0_2 - (mn a0_2 a1_2)))).bind fun t194 => ((cuspref02_up.f kj2 l1_1 (wrap64 (a1_2 - (mn a0_2 a1_2)))).bind fun t197 => ((cuspref02_order.f kj2 t194 t197).bind fun t200 => (some t200)))) else ((cuspref02_High.f kj2 a0_0 l0_1 a0_2).bind fun t201 => ((cuspref02_High.f kj2 a1_0 l1_1 a1_2).bind fun t202 => (some (wrap64 (t201 - t202)))))) = some r := H
    have A17 := asd A170
    clear A170
    by_cases c18 : t192 = t193
    ·rw [if_pos c18] at H
     have c18b0 : (t192 == t193) = true := beq_iff_eq.mpr c18
     have c18b1 : (t192 != t193) = false := bne_eq_false_iff_eq.mpr c18
     clear c18
     obtain ⟨ji19, hji19⟩ : ∃ j_ : Int, (mn a0_2 a1_2) = j_ := ⟨_, rfl⟩
     replace H : ((cuspref02_up.f kj2 l0_1 (wrap64 (a0_2 - (ji19)))).bind fun t194 => ((cuspref02_up.f kj2 l1_1 (wrap64 (a1_2 - (ji19)))).bind fun t197 => ((cuspref02_order.f kj2 t194 t197).bind fun t200 => (some t200)))) = some r := by first | (rw [hji19] at H; exact H) | (simp only [hji19] at H ⊢; exact H)
     (try rw [hji19] at A16)
     (try rw [hji19] at A17)
     have hji19_ : (if a1_2 < a0_2 then a1_2 else a0_2) = ji19 := hji19
     replace H := Option.bind_eq_some_iff.mp H
     obtain ⟨t194, A200, H⟩ := H
     replace H : ((cuspref02_up.f kj2 l1_1 (wrap64 (a1_2 - (ji19)))).bind fun t197 => ((cuspref02_order.f kj2 t194 t197).bind fun t200 => (some t200))) = some r := H
     have A20 := asd A200
     clear A200
     replace H := Option.bind_eq_some_iff.mp H
     obtain ⟨t197, A210, H⟩ := H
     replace H : ((cuspref02_order.f kj2 t194 t197).bind fun t200 => (some t200)) = some r := H
     have A21 := asd A210
     clear A210
     replace H := Option.bind_eq_some_iff.mp H
     obtain ⟨t200, A220, H⟩ := H
     replace H : (some t200) = some r := H
     have A22 := asd A220
     clear A220
     obtain rfl := Option.some.inj H
     try go_wp2
     have n0_ := asd (blk_drew BK190.out)
     have n1_ := asd (blk_drew BK191.out)
     have n2_ := asd (below_drew1 HB.out)
     clear BK190
     clear BK191
     clear HB
     have BK190 := n0_
     have BK191 := n1_
     have HB := n2_
     clear n0_ n1_ n2_
     refine start_ (n := 6) (S := fun w' => w'.cell? ⟨gb190, 0, none⟩ = some (.bool a0_0) ∧ w'.cell? ⟨gb190, 1, none⟩ = some (.slice A0_1 l0_1.length c0_1) ∧ w'.cell? ⟨gb190, 2, none⟩ = some (.int .i64 a0_2) ∧ w'.cell? ⟨gb191, 0, none⟩ = some (.bool a1_0) ∧ w'.cell? ⟨gb191, 1, none⟩ = some (.slice A1_1 l1_1.length c1_1) ∧ w'.cell? ⟨gb191, 2, none⟩ = some (.int .i64 a1_2)) (ds := []) #[false, false, false, false, false, false] (by kernel_rfl) rfl rfl ⟨(blk_cell BK190.out 0).trans rfl, (blk_cell BK190.out 1).trans rfl, (blk_cell BK190.out 2).trans rfl, (blk_cell BK191.out 0).trans rfl, (blk_cell BK191.out 1).trans rfl, (blk_cell BK191.out 2).trans rfl⟩ (fun hHeld => ?_)
     generalize wc.drew = w23 at BK190 BK191 HB hHeld ⊢
     refine take_ (i := 0) (N := some 25) (v := ?_) (a' := ?_) #[true, false, false, false, false, false] rfl rfl (by kernel_rfl) (fun _ _ _ h => h) (Or.inl ⟨by rfl, ?_⟩) hHeld ?_ ?_
     rotate_left
     ·rintro w' ⟨s0, s1, s2, s3, s4, s5⟩
      go_simp
      with_reducible rfl
     rotate_left
     ·simp only [Act.put, List.setIfInBounds_toArray, List.set_cons_zero, List.set_cons_succ, i64_w, i32_w]
      rfl
     refine take_ (i := 2) (N := some 27) (v := ?_) (a' := ?_) #[true, false, true, false, false, false] rfl rfl (by kernel_rfl) (fun _ _ _ h => h) (Or.inl ⟨by rfl, ?_⟩) hHeld ?_ ?_
     rotate_left
     ·rintro w' ⟨s0, s1, s2, s3, s4, s5⟩
      go_simp
      with_reducible rfl
     rotate_left
     ·simp only [Act.put, List.setIfInBounds_toArray, List.set_cons_zero, List.set_cons_succ, i64_w, i32_w]
      rfl
     refine one_ (i := 1) (N := some 26) #[true, true, true, false, false, false] rfl rfl (by kernel_rfl) (by decide) (fun K hK => ?_)
     refine goes_ Tryz.func101 (by kernel_rfl) rfl #[.agg #[.bool a0_0, .slice A0_1 l0_1.length c0_1, .int .i64 a0_2]] (by rfl) rfl rfl eqA ?_
     with_reducible refine (cuspref02_High.calls kj2 a0_0 _ _ l0_1 a0_2 t192 _ ?side1 ?side2 A16.out).mono ?_
     (case side1 => repeat (first | exact (Kd.C_below HR0_1.out HB.out) | (with_reducible refine Kd.C_alloc ?_ _) | (with_reducible refine Kd.C_drewN ?_ _) | (with_reducible refine Kd.C_drew ?_)))
     (case side2 => exact HC0_1.out)
     rintro e w24 ⟨rfl, hb⟩
     refine ⟨_, rfl, ?_⟩
     have n0_ := asd (blk_below (g := gb190) (o := .cells #[.bool a0_0, .slice A0_1 l0_1.length c0_1, .int .i64 a0_2] 41 (0, 0)) (blkU BK190.out) hb)
     have n1_ := asd (blk_below (g := gb191) (o := .cells #[.bool a1_0, .slice A1_1 l1_1.length c1_1, .int .i64 a1_2] 41 (0, 0)) (blkU BK191.out) hb)
     have n2_ := asd (below_step (by repeat (first | (with_reducible first | exact HB.out | apply below_alloc | apply pw_below_drewN | apply below_drew1 | refine below_set ?_ GE190.out | refine below_set ?_ GE191.out) | exact HB.out)) hb)
     clear BK190
     clear BK191
     clear HB
     have BK190 := n0_
     have BK191 := n1_
     have HB := n2_
     clear n0_ n1_ n2_
     (try clear hb)
     (try clear hb2)
     (try clear hk)
     (try clear hi)
     refine hK.out _ _ ⟨(blk_cell BK190.out 0).trans rfl, (blk_cell BK190.out 1).trans rfl, (blk_cell BK190.out 2).trans rfl, (blk_cell BK191.out 0).trans rfl, (blk_cell BK191.out 1).trans rfl, (blk_cell BK191.out 2).trans rfl⟩ (fun hHeld => ?_)
     clear hK K
     refine norm_ (a' := ?_) ?_ ?_
     rotate_left
     ·show Act.put _ (some 26) _ = _
      simp only [Act.put, List.setIfInBounds_toArray, List.set_cons_zero, List.set_cons_succ, i64_w, i32_w]
      rfl
     refine one_ (i := 3) (N := some 28) #[true, true, true, true, false, false] rfl rfl (by kernel_rfl) (by decide) (fun K hK => ?_)
     refine goes_ Tryz.func101 (by kernel_rfl) rfl #[.agg #[.bool a1_0, .slice A1_1 l1_1.length c1_1, .int .i64 a1_2]] (by rfl) rfl rfl eqA ?_
     with_reducible refine (cuspref02_High.calls kj2 a1_0 _ _ l1_1 a1_2 t193 _ ?side1 ?side2 A17.out).mono ?_
     (case side1 => repeat (first | exact (Kd.C_below HR1_1.out HB.out) | (with_reducible refine Kd.C_alloc ?_ _) | (with_reducible refine Kd.C_drewN ?_ _) | (with_reducible refine Kd.C_drew ?_)))
     (case side2 => exact HC1_1.out)
     rintro e w25 ⟨rfl, hb⟩
     refine ⟨_, rfl, ?_⟩
     have n0_ := asd (blk_below (g := gb190) (o := .cells #[.bool a0_0, .slice A0_1 l0_1.length c0_1, .int .i64 a0_2] 41 (0, 0)) (blkU BK190.out) hb)
     have n1_ := asd (blk_below (g := gb191) (o := .cells #[.bool a1_0, .slice A1_1 l1_1.length c1_1, .int .i64 a1_2] 41 (0, 0)) (blkU BK191.out) hb)
     have n2_ := asd (below_step (by repeat (first | (with_reducible first | exact HB.out | apply below_alloc | apply pw_below_drewN | apply below_drew1 | refine below_set ?_ GE190.out | refine below_set ?_ GE191.out) | exact HB.out)) hb)
     clear BK190
     clear BK191
     clear HB
     have BK190 := n0_
     have BK191 := n1_
     have HB := n2_
     clear n0_ n1_ n2_
     (try clear hb)
     (try clear hb2)
     (try clear hk)
     (try clear hi)
     refine hK.out _ _ ⟨(blk_cell BK190.out 0).trans rfl, (blk_cell BK190.out 1).trans rfl, (blk_cell BK190.out 2).trans rfl, (blk_cell BK191.out 0).trans rfl, (blk_cell BK191.out 1).trans rfl, (blk_cell BK191.out 2).trans rfl⟩ (fun hHeld => ?_)
     clear hK K
     refine norm_ (a' := ?_) ?_ ?_
     rotate_left
     ·show Act.put _ (some 28) _ = _
      simp only [Act.put, List.setIfInBounds_toArray, List.set_cons_zero, List.set_cons_succ, i64_w, i32_w]
      rfl
     refine pure_ (i := 4) (N := some 29) (v := ?_) (a' := ?_) #[true, true, true, true, true, false] rfl rfl (by kernel_rfl) (fun _ _ _ h => h) (Or.inl ⟨by rfl, ?_⟩) ?_ ?_
     rotate_left
     ·intro w'
      go_simp
      with_reducible rfl
     rotate_left
     ·simp only [Act.put, List.setIfInBounds_toArray, List.set_cons_zero, List.set_cons_succ, i64_w, i32_w]
      rfl
     refine pure_ (i := 5) (N := some 24) (v := ?_) (a' := ?_) #[true, true, true, true, true, true] rfl rfl (by kernel_rfl) (fun _ _ _ h => h) (Or.inl ⟨by rfl, ?_⟩) ?_ ?_
     rotate_left
     ·intro w'
      go_simp
      with_reducible rfl
     rotate_left
     ·simp only [Act.put, List.setIfInBounds_toArray, List.set_cons_zero, List.set_cons_succ, i64_w, i32_w]
      rfl
     refine done_ (by kernel_rfl) ?_
     have hnb26 := NB190_191.out
     have hnc26 := NB191_190.out
     have hcz27_0 : w25.cell? ⟨gb190, 0, none⟩ = some (.bool a0_0) := (blk_cell BK190.out 0).trans rfl
     have hcz27_1 : w25.cell? ⟨gb190, 1, none⟩ = some (.slice A0_1 l0_1.length c0_1) := (blk_cell BK190.out 1).trans rfl
     have hcz27_2 : w25.cell? ⟨gb190, 2, none⟩ = some (.int .i64 a0_2) := (blk_cell BK190.out 2).trans rfl
     have hfz27_0 := blk_frozen BK190.out 0
     have hfz27_1 := blk_frozen BK190.out 1
     have hfz27_2 := blk_frozen BK190.out 2
     have hcz28_0 : w25.cell? ⟨gb191, 0, none⟩ = some (.bool a1_0) := (blk_cell BK191.out 0).trans rfl
     have hcz28_1 : w25.cell? ⟨gb191, 1, none⟩ = some (.slice A1_1 l1_1.length c1_1) := (blk_cell BK191.out 1).trans rfl
     have hcz28_2 : w25.cell? ⟨gb191, 2, none⟩ = some (.int .i64 a1_2) := (blk_cell BK191.out 2).trans rfl
     have hfz28_0 := blk_frozen BK191.out 0
     have hfz28_1 := blk_frozen BK191.out 1
     have hfz28_2 := blk_frozen BK191.out 2
     try go_wp2
     have n0_ := asd (blk_drew BK190.out)
     have n1_ := asd (blk_drew BK191.out)
     have n2_ := asd (below_drew1 HB.out)
     clear BK190
     clear BK191
     clear HB
     have BK190 := n0_
     have BK191 := n1_
     have HB := n2_
     clear n0_ n1_ n2_
     refine start_ (n := 16) (S := fun w' => w'.cell? ⟨gb190, 0, none⟩ = some (.bool a0_0) ∧ w'.cell? ⟨gb190, 1, none⟩ = some (.slice A0_1 l0_1.length c0_1) ∧ w'.cell? ⟨gb190, 2, none⟩ = some (.int .i64 a0_2) ∧ w'.cell? ⟨gb191, 0, none⟩ = some (.bool a1_0) ∧ w'.cell? ⟨gb191, 1, none⟩ = some (.slice A1_1 l1_1.length c1_1) ∧ w'.cell? ⟨gb191, 2, none⟩ = some (.int .i64 a1_2)) (ds := []) #[false, false, false, false, false, false, false, false, false, false, false, false, false, false, false, false] (by kernel_rfl) rfl rfl ⟨(blk_cell BK190.out 0).trans rfl, (blk_cell BK190.out 1).trans rfl, (blk_cell BK190.out 2).trans rfl, (blk_cell BK191.out 0).trans rfl, (blk_cell BK191.out 1).trans rfl, (blk_cell BK191.out 2).trans rfl⟩ (fun hHeld => ?_); refine with_tabW cuspref02_magnitude.tab6 cuspref02_magnitude.bits6 (fun HT_ HW_ => ?_)
     generalize w25.drew = w29 at BK190 BK191 HB hHeld ⊢
     refine pure_ (i := 0) (N := some 40) (v := ?_) (a' := ?_) #[true, false, false, false, false, false, false, false, false, false, false, false, false, false, false, false] rfl rfl (any_of HT_.out (by kernel_rfl)) (fun _ _ _ h => h) (Or.inl ⟨by rfl, ?_⟩) ?_ ?_
     rotate_left
     ·intro w'
      go_simp
      with_reducible rfl
     rotate_left
     ·simp only [Act.put, List.setIfInBounds_toArray, List.set_cons_zero, List.set_cons_succ, i64_w, i32_w]
      rfl
     refine pure_ (i := 2) (N := some 42) (v := ?_) (a' := ?_) #[true, false, true, false, false, false, false, false, false, false, false, false, false, false, false, false] rfl rfl (any_of HT_.out (by kernel_rfl)) (fun _ _ _ h => h) (Or.inl ⟨by rfl, ?_⟩) ?_ ?_
     rotate_left
     ·intro w'
      go_simp
      with_reducible rfl
     rotate_left
     ·simp only [Act.put, List.setIfInBounds_toArray, List.set_cons_zero, List.set_cons_succ, i64_w, i32_w]
      rfl
     refine pure_ (i := 4) (N := some 44) (v := ?_) (a' := ?_) #[true, false, true, false, true, false, false, false, false, false, false, false, false, false, false, false] rfl rfl (any_of HT_.out (by kernel_rfl)) (fun _ _ _ h => h) (Or.inl ⟨by rfl, ?_⟩) ?_ ?_
     rotate_left
     ·intro w'
      go_simp
      with_reducible rfl
     rotate_left
     ·simp only [Act.put, List.setIfInBounds_toArray, List.set_cons_zero, List.set_cons_succ, i64_w, i32_w]
      rfl
     refine pure_ (i := 7) (N := some 47) (v := ?_) (a' := ?_) #[true, false, true, false, true, false, false, true, false, false, false, false, false, false, false, false] rfl rfl (any_of HT_.out (by kernel_rfl)) (fun _ _ _ h => h) (Or.inl ⟨by rfl, ?_⟩) ?_ ?_
     rotate_left
     ·intro w'
      go_simp
      with_reducible rfl
     rotate_left
     ·simp only [Act.put, List.setIfInBounds_toArray, List.set_cons_zero, List.set_cons_succ, i64_w, i32_w]
      rfl
     refine pure_ (i := 9) (N := some 49) (v := ?_) (a' := ?_) #[true, false, true, false, true, false, false, true, false, true, false, false, false, false, false, false] rfl rfl (any_of HT_.out (by kernel_rfl)) (fun _ _ _ h => h) (Or.inl ⟨by rfl, ?_⟩) ?_ ?_
     rotate_left
     ·intro w'
      go_simp
      with_reducible rfl
     rotate_left
     ·simp only [Act.put, List.setIfInBounds_toArray, List.set_cons_zero, List.set_cons_succ, i64_w, i32_w]
      rfl
     refine pure_ (i := 11) (N := some 51) (v := ?_) (a' := ?_) #[true, false, true, false, true, false, false, true, false, true, false, true, false, false, false, false] rfl rfl (any_of HT_.out (by kernel_rfl)) (fun _ _ _ h => h) (Or.inl ⟨by rfl, ?_⟩) ?_ ?_
     rotate_left
     ·intro w'
      go_simp
      with_reducible rfl
     rotate_left
     ·simp only [Act.put, List.setIfInBounds_toArray, List.set_cons_zero, List.set_cons_succ, i64_w, i32_w]
      rfl
     refine take_ (i := 1) (N := some 41) (v := ?_) (a' := ?_) #[true, true, true, false, true, false, false, true, false, true, false, true, false, false, false, false] rfl rfl (take_ofW HT_.out HW_.out (by kernel_rfl)) (fun _ _ _ h => h) (Or.inl ⟨by rfl, ?_⟩) hHeld ?_ ?_
     rotate_left
     ·rintro w' ⟨s0, s1, s2, s3, s4, s5⟩
      go_simp
      with_reducible rfl
     rotate_left
     ·simp only [Act.put, List.setIfInBounds_toArray, List.set_cons_zero, List.set_cons_succ, i64_w, i32_w]
      rfl
     refine take_ (i := 3) (N := some 43) (v := ?_) (a' := ?_) #[true, true, true, true, true, false, false, true, false, true, false, true, false, false, false, false] rfl rfl (take_ofW HT_.out HW_.out (by kernel_rfl)) (fun _ _ _ h => h) (Or.inl ⟨by rfl, ?_⟩) hHeld ?_ ?_
     rotate_left
     ·rintro w' ⟨s0, s1, s2, s3, s4, s5⟩
      go_simp
      with_reducible rfl
     rotate_left
     ·simp only [Act.put, List.setIfInBounds_toArray, List.set_cons_zero, List.set_cons_succ, i64_w, i32_w]
      rfl
     refine pure_ (i := 5) (N := some 45) (v := ?_) (a' := ?_) #[true, true, true, true, true, true, false, true, false, true, false, true, false, false, false, false] rfl rfl (any_of HT_.out (by kernel_rfl)) (fun _ _ _ h => h) (Or.inl ⟨by rfl, ?_⟩) ?_ ?_
     rotate_left
     ·intro w'
      go_simp
      with_reducible rfl
     rotate_left
     ·simp only [Act.put, List.setIfInBounds_toArray, List.set_cons_zero, List.set_cons_succ, i64_w, i32_w]
      rfl
     refine take_ (i := 8) (N := some 48) (v := ?_) (a' := ?_) #[true, true, true, true, true, true, false, true, true, true, false, true, false, false, false, false] rfl rfl (take_ofW HT_.out HW_.out (by kernel_rfl)) (fun _ _ _ h => h) (Or.inl ⟨by rfl, ?_⟩) hHeld ?_ ?_
     rotate_left
     ·rintro w' ⟨s0, s1, s2, s3, s4, s5⟩
      go_simp
      with_reducible rfl
     rotate_left
     ·simp only [Act.put, List.setIfInBounds_toArray, List.set_cons_zero, List.set_cons_succ, i64_w, i32_w]
      rfl
     refine take_ (i := 10) (N := some 50) (v := ?_) (a' := ?_) #[true, true, true, true, true, true, false, true, true, true, true, true, false, false, false, false] rfl rfl (take_ofW HT_.out HW_.out (by kernel_rfl)) (fun _ _ _ h => h) (Or.inl ⟨by rfl, ?_⟩) hHeld ?_ ?_
     rotate_left
     ·rintro w' ⟨s0, s1, s2, s3, s4, s5⟩
      go_simp
      with_reducible rfl
     rotate_left
     ·simp only [Act.put, List.setIfInBounds_toArray, List.set_cons_zero, List.set_cons_succ, i64_w, i32_w]
      rfl
     refine pure_ (i := 12) (N := some 52) (v := ?_) (a' := ?_) #[true, true, true, true, true, true, false, true, true, true, true, true, true, false, false, false] rfl rfl (any_of HT_.out (by kernel_rfl)) (fun _ _ _ h => h) (Or.inl ⟨by rfl, ?_⟩) ?_ ?_
     rotate_left
     ·intro w'
      go_simp
      with_reducible rfl
     rotate_left
     ·simp only [Act.put, List.setIfInBounds_toArray, List.set_cons_zero, List.set_cons_succ, i64_w, i32_w]
      rfl
     refine one_ (i := 6) (N := some 46) #[true, true, true, true, true, true, true, true, true, true, true, true, true, false, false, false] rfl rfl (one_of HT_.out (by kernel_rfl)) (by decide) (fun K hK => ?_)
     refine goes_ Tryz.func64 (by kernel_rfl) rfl #[.slice A0_1 l0_1.length c0_1, .int .i64 (wrap64 (a0_2 - (ji19)))] (by rfl) rfl rfl (by (try simp only [List.map_toArray, List.map_cons, List.map_nil]); first | done | (simp only [hji19]; rfl) | rfl | (simp only [List.length_drop, List.length_take]; rfl)) ?_
     with_reducible refine (cuspref02_up.calls kj2 _ _ l0_1 (wrap64 (a0_2 - (ji19))) t194 _ ?side1 ?side2 A20.out).mono ?_
     (case side1 => repeat (first | exact (Kd.C_below HR0_1.out HB.out) | (with_reducible refine Kd.C_alloc ?_ _) | (with_reducible refine Kd.C_drewN ?_ _) | (with_reducible refine Kd.C_drew ?_)))
     (case side2 => exact HC0_1.out)
     rintro e w30 ⟨v195, rfl, ho0, hb⟩
     refine ⟨_, rfl, ?_⟩
     have n0_ := asd (Kd.R_lower ho0 (below_size (by repeat (first | (with_reducible first | exact HB.out | apply below_alloc | apply pw_below_drewN | apply below_drew1 | refine below_set ?_ GE190.out | refine below_set ?_ GE191.out) | exact HB.out))))
     have n1_ := asd (blk_below (g := gb190) (o := .cells #[.bool a0_0, .slice A0_1 l0_1.length c0_1, .int .i64 a0_2] 41 (0, 0)) (blkU BK190.out) hb)
     have n2_ := asd (blk_below (g := gb191) (o := .cells #[.bool a1_0, .slice A1_1 l1_1.length c1_1, .int .i64 a1_2] 41 (0, 0)) (blkU BK191.out) hb)
     have n3_ := asd (below_step (by repeat (first | (with_reducible first | exact HB.out | apply below_alloc | apply pw_below_drewN | apply below_drew1 | refine below_set ?_ GE190.out | refine below_set ?_ GE191.out) | exact HB.out)) hb)
     clear BK190
     clear BK191
     clear HB
     have HO196 := n0_
     have BK190 := n1_
     have BK191 := n2_
     have HB := n3_
     clear n0_ n1_ n2_ n3_
     (try clear hb)
     (try clear hb2)
     (try clear hk)
     (try clear hi)
     (try clear ho0)
     refine hK.out _ _ ⟨(blk_cell BK190.out 0).trans rfl, (blk_cell BK190.out 1).trans rfl, (blk_cell BK190.out 2).trans rfl, (blk_cell BK191.out 0).trans rfl, (blk_cell BK191.out 1).trans rfl, (blk_cell BK191.out 2).trans rfl⟩ (fun hHeld => ?_)
     clear hK K
     refine norm_ (a' := ?_) ?_ ?_
     rotate_left
     ·show Act.put _ (some 46) _ = _
      simp only [Act.put, List.setIfInBounds_toArray, List.set_cons_zero, List.set_cons_succ, i64_w, i32_w]
      rfl
     refine one_ (i := 13) (N := some 53) #[true, true, true, true, true, true, true, true, true, true, true, true, true, true, false, false] rfl rfl (one_of HT_.out (by kernel_rfl)) (by decide) (fun K hK => ?_)
     refine goes_ Tryz.func64 (by kernel_rfl) rfl #[.slice A1_1 l1_1.length c1_1, .int .i64 (wrap64 (a1_2 - (ji19)))] (by rfl) rfl rfl (by (try simp only [List.map_toArray, List.map_cons, List.map_nil]); first | done | (simp only [hji19]; rfl) | rfl | (simp only [List.length_drop, List.length_take]; rfl)) ?_
     with_reducible refine (cuspref02_up.calls kj2 _ _ l1_1 (wrap64 (a1_2 - (ji19))) t197 _ ?side1 ?side2 A21.out).mono ?_
     (case side1 => repeat (first | exact (Kd.C_below HR1_1.out HB.out) | (with_reducible refine Kd.C_alloc ?_ _) | (with_reducible refine Kd.C_drewN ?_ _) | (with_reducible refine Kd.C_drew ?_)))
     (case side2 => exact HC1_1.out)
     rintro e w31 ⟨v198, rfl, ho0, hb⟩
     refine ⟨_, rfl, ?_⟩
     have n0_ := asd (Kd.R_elder' (rUp HO196.out) (Kd.R_base ho0) hb)
     have n1_ := asd (Kd.R_lower (Kd.R_new' ho0 (Kd.R_lt (rUp HO196.out))) (below_size (by repeat (first | (with_reducible first | exact HB.out | apply below_alloc | apply pw_below_drewN | apply below_drew1 | refine below_set ?_ GE190.out | refine below_set ?_ GE191.out) | exact HB.out))))
     have n2_ := asd (blk_below (g := gb190) (o := .cells #[.bool a0_0, .slice A0_1 l0_1.length c0_1, .int .i64 a0_2] 41 (0, 0)) (blkU BK190.out) hb)
     have n3_ := asd (blk_below (g := gb191) (o := .cells #[.bool a1_0, .slice A1_1 l1_1.length c1_1, .int .i64 a1_2] 41 (0, 0)) (blkU BK191.out) hb)
     have n4_ := asd (below_step (by repeat (first | (with_reducible first | exact HB.out | apply below_alloc | apply pw_below_drewN | apply below_drew1 | refine below_set ?_ GE190.out | refine below_set ?_ GE191.out) | exact HB.out)) hb)
     clear HO196
     clear BK190
     clear BK191
     clear HB
     have HO196 := n0_
     have HO199 := n1_
     have BK190 := n2_
     have BK191 := n3_
     have HB := n4_
     clear n0_ n1_ n2_ n3_ n4_
     (try clear hb)
     (try clear hb2)
     (try clear hk)
     (try clear hi)
     (try clear ho0)
     obtain ⟨Ao32, co32, eo32⟩ := Kd.R_slice HO196.out
     (first | subst eo32 | (injection eo32 with f1_ f2_ f3_; have f4_ := f1_.symm; have f5_ := f3_.symm; clear f1_ f2_ f3_; subst f4_; subst f5_))
     obtain ⟨Ao33, co33, eo33⟩ := Kd.R_slice HO199.out
     (first | subst eo33 | (injection eo33 with f1_ f2_ f3_; have f4_ := f1_.symm; have f5_ := f3_.symm; clear f1_ f2_ f3_; subst f4_; subst f5_))
     refine hK.out _ _ ⟨(blk_cell BK190.out 0).trans rfl, (blk_cell BK190.out 1).trans rfl, (blk_cell BK190.out 2).trans rfl, (blk_cell BK191.out 0).trans rfl, (blk_cell BK191.out 1).trans rfl, (blk_cell BK191.out 2).trans rfl⟩ (fun hHeld => ?_)
     clear hK K
     refine norm_ (a' := ?_) ?_ ?_
     rotate_left
     ·show Act.put _ (some 53) _ = _
      simp only [Act.put, List.setIfInBounds_toArray, List.set_cons_zero, List.set_cons_succ, i64_w, i32_w]
      rfl
     refine one_ (i := 14) (N := some 54) #[true, true, true, true, true, true, true, true, true, true, true, true, true, true, true, false] rfl rfl (one_of HT_.out (by kernel_rfl)) (by decide) (fun K hK => ?_)
     refine goes_ Tryz.func67 (by kernel_rfl) rfl #[.slice Ao32 t194.length co32, .slice Ao33 t197.length co33] (by rfl) rfl rfl eqA ?_
     with_reducible refine (cuspref02_order.calls kj2 _ _ t194 _ _ t197 t200 _ ?side1 ?side2 ?side3 ?side4 A22.out).mono ?_
     (case side1 => repeat (first | exact (Kd.R_reads' HO196.out).2.2 | (with_reducible refine Kd.C_alloc ?_ _) | (with_reducible refine Kd.C_drewN ?_ _) | (with_reducible refine Kd.C_drew ?_)))
     (case side2 => exact (Kd.R_reads' HO196.out).2.1)
     (case side3 => repeat (first | exact (Kd.R_reads' HO199.out).2.2 | (with_reducible refine Kd.C_alloc ?_ _) | (with_reducible refine Kd.C_drewN ?_ _) | (with_reducible refine Kd.C_drew ?_)))
     (case side4 => exact (Kd.R_reads' HO199.out).2.1)
     rintro e w' ⟨rfl, ⟨nd, rfl⟩⟩
     refine ⟨_, rfl, ?_⟩
     refine hK.out _ _ ⟨(blk_cell BK190.out 0).trans rfl, (blk_cell BK190.out 1).trans rfl, (blk_cell BK190.out 2).trans rfl, (blk_cell BK191.out 0).trans rfl, (blk_cell BK191.out 1).trans rfl, (blk_cell BK191.out 2).trans rfl⟩ (fun hHeld => ?_)
     clear hK K
     refine norm_ (a' := ?_) ?_ ?_
     rotate_left
     ·show Act.put _ (some 54) _ = _
      simp only [Act.put, List.setIfInBounds_toArray, List.set_cons_zero, List.set_cons_succ, i64_w, i32_w]
      rfl
     refine pure_ (i := 15) (N := some 4) (v := ?_) (a' := ?_) #[true, true, true, true, true, true, true, true, true, true, true, true, true, true, true, true] rfl rfl (any_of HT_.out (by kernel_rfl)) (fun _ _ _ h => h) (Or.inl ⟨by rfl, ?_⟩) ?_ ?_
     rotate_left
     ·intro w'
      go_simp
      with_reducible rfl
     rotate_left
     ·simp only [Act.put, List.setIfInBounds_toArray, List.set_cons_zero, List.set_cons_succ, i64_w, i32_w]
      rfl
     refine done_ (done_of HT_.out (by kernel_rfl)) ?_
     try go_wp2
     go_ret
     exact ⟨by first | rfl | (simp [errW_none, errW_some] <;> rfl) | (simp only [← hji19]; first | rfl | (simp [errW_none, errW_some] <;> rfl)) | (simp [*, errW_none, errW_some] <;> rfl), by repeat (first | (with_reducible first | exact HB.out | apply below_alloc | apply pw_below_drewN | apply below_drew1 | refine below_set ?_ GE190.out | refine below_set ?_ GE191.out) | exact HB.out)⟩
    ·rw [if_neg c18] at H
     have c18b0 : (t192 == t193) = false := beq_eq_false_iff_ne.mpr c18
     have c18b1 : (t192 != t193) = true := bne_iff_ne.mpr c18
     replace H := Option.bind_eq_some_iff.mp H
     obtain ⟨t201, A340, H⟩ := H
     replace H : ((cuspref02_High.f kj2 a1_0 l1_1 a1_2).bind fun t202 => (some (wrap64 (t201 - t202)))) = some r := H
     have A34 := asd A340
     clear A340
     replace H := Option.bind_eq_some_iff.mp H
     obtain ⟨t202, A350, H⟩ := H
     replace H : (some (wrap64 (t201 - t202))) = some r := H
     have A35 := asd A350
     clear A350
     obtain rfl := Option.some.inj H
     try go_wp2
     have n0_ := asd (blk_drew BK190.out)
     have n1_ := asd (blk_drew BK191.out)
     have n2_ := asd (below_drew1 HB.out)
     clear BK190
     clear BK191
     clear HB
     have BK190 := n0_
     have BK191 := n1_
     have HB := n2_
     clear n0_ n1_ n2_
     refine start_ (n := 6) (S := fun w' => w'.cell? ⟨gb190, 0, none⟩ = some (.bool a0_0) ∧ w'.cell? ⟨gb190, 1, none⟩ = some (.slice A0_1 l0_1.length c0_1) ∧ w'.cell? ⟨gb190, 2, none⟩ = some (.int .i64 a0_2) ∧ w'.cell? ⟨gb191, 0, none⟩ = some (.bool a1_0) ∧ w'.cell? ⟨gb191, 1, none⟩ = some (.slice A1_1 l1_1.length c1_1) ∧ w'.cell? ⟨gb191, 2, none⟩ = some (.int .i64 a1_2)) (ds := []) #[false, false, false, false, false, false] (by kernel_rfl) rfl rfl ⟨(blk_cell BK190.out 0).trans rfl, (blk_cell BK190.out 1).trans rfl, (blk_cell BK190.out 2).trans rfl, (blk_cell BK191.out 0).trans rfl, (blk_cell BK191.out 1).trans rfl, (blk_cell BK191.out 2).trans rfl⟩ (fun hHeld => ?_)
     generalize wc.drew = w36 at BK190 BK191 HB hHeld ⊢
     refine take_ (i := 0) (N := some 25) (v := ?_) (a' := ?_) #[true, false, false, false, false, false] rfl rfl (by kernel_rfl) (fun _ _ _ h => h) (Or.inl ⟨by rfl, ?_⟩) hHeld ?_ ?_
     rotate_left
     ·rintro w' ⟨s0, s1, s2, s3, s4, s5⟩
      go_simp
      with_reducible rfl
     rotate_left
     ·simp only [Act.put, List.setIfInBounds_toArray, List.set_cons_zero, List.set_cons_succ, i64_w, i32_w]
      rfl
     refine take_ (i := 2) (N := some 27) (v := ?_) (a' := ?_) #[true, false, true, false, false, false] rfl rfl (by kernel_rfl) (fun _ _ _ h => h) (Or.inl ⟨by rfl, ?_⟩) hHeld ?_ ?_
     rotate_left
     ·rintro w' ⟨s0, s1, s2, s3, s4, s5⟩
      go_simp
      with_reducible rfl
     rotate_left
     ·simp only [Act.put, List.setIfInBounds_toArray, List.set_cons_zero, List.set_cons_succ, i64_w, i32_w]
      rfl
     refine one_ (i := 1) (N := some 26) #[true, true, true, false, false, false] rfl rfl (by kernel_rfl) (by decide) (fun K hK => ?_)
     refine goes_ Tryz.func101 (by kernel_rfl) rfl #[.agg #[.bool a0_0, .slice A0_1 l0_1.length c0_1, .int .i64 a0_2]] (by rfl) rfl rfl eqA ?_
     with_reducible refine (cuspref02_High.calls kj2 a0_0 _ _ l0_1 a0_2 t192 _ ?side1 ?side2 A16.out).mono ?_
     (case side1 => repeat (first | exact (Kd.C_below HR0_1.out HB.out) | (with_reducible refine Kd.C_alloc ?_ _) | (with_reducible refine Kd.C_drewN ?_ _) | (with_reducible refine Kd.C_drew ?_)))
     (case side2 => exact HC0_1.out)
     rintro e w37 ⟨rfl, hb⟩
     refine ⟨_, rfl, ?_⟩
     have n0_ := asd (blk_below (g := gb190) (o := .cells #[.bool a0_0, .slice A0_1 l0_1.length c0_1, .int .i64 a0_2] 41 (0, 0)) (blkU BK190.out) hb)
     have n1_ := asd (blk_below (g := gb191) (o := .cells #[.bool a1_0, .slice A1_1 l1_1.length c1_1, .int .i64 a1_2] 41 (0, 0)) (blkU BK191.out) hb)
     have n2_ := asd (below_step (by repeat (first | (with_reducible first | exact HB.out | apply below_alloc | apply pw_below_drewN | apply below_drew1 | refine below_set ?_ GE190.out | refine below_set ?_ GE191.out) | exact HB.out)) hb)
     clear BK190
     clear BK191
     clear HB
     have BK190 := n0_
     have BK191 := n1_
     have HB := n2_
     clear n0_ n1_ n2_
     (try clear hb)
     (try clear hb2)
     (try clear hk)
     (try clear hi)
     refine hK.out _ _ ⟨(blk_cell BK190.out 0).trans rfl, (blk_cell BK190.out 1).trans rfl, (blk_cell BK190.out 2).trans rfl, (blk_cell BK191.out 0).trans rfl, (blk_cell BK191.out 1).trans rfl, (blk_cell BK191.out 2).trans rfl⟩ (fun hHeld => ?_)
     clear hK K
     refine norm_ (a' := ?_) ?_ ?_
     rotate_left
     ·show Act.put _ (some 26) _ = _
      simp only [Act.put, List.setIfInBounds_toArray, List.set_cons_zero, List.set_cons_succ, i64_w, i32_w]
      rfl
     refine one_ (i := 3) (N := some 28) #[true, true, true, true, false, false] rfl rfl (by kernel_rfl) (by decide) (fun K hK => ?_)
     refine goes_ Tryz.func101 (by kernel_rfl) rfl #[.agg #[.bool a1_0, .slice A1_1 l1_1.length c1_1, .int .i64 a1_2]] (by rfl) rfl rfl eqA ?_
     with_reducible refine (cuspref02_High.calls kj2 a1_0 _ _ l1_1 a1_2 t193 _ ?side1 ?side2 A17.out).mono ?_
     (case side1 => repeat (first | exact (Kd.C_below HR1_1.out HB.out) | (with_reducible refine Kd.C_alloc ?_ _) | (with_reducible refine Kd.C_drewN ?_ _) | (with_reducible refine Kd.C_drew ?_)))
     (case side2 => exact HC1_1.out)
     rintro e w38 ⟨rfl, hb⟩
     refine ⟨_, rfl, ?_⟩
     have n0_ := asd (blk_below (g := gb190) (o := .cells #[.bool a0_0, .slice A0_1 l0_1.length c0_1, .int .i64 a0_2] 41 (0, 0)) (blkU BK190.out) hb)
     have n1_ := asd (blk_below (g := gb191) (o := .cells #[.bool a1_0, .slice A1_1 l1_1.length c1_1, .int .i64 a1_2] 41 (0, 0)) (blkU BK191.out) hb)
     have n2_ := asd (below_step (by repeat (first | (with_reducible first | exact HB.out | apply below_alloc | apply pw_below_drewN | apply below_drew1 | refine below_set ?_ GE190.out | refine below_set ?_ GE191.out) | exact HB.out)) hb)
     clear BK190
     clear BK191
     clear HB
     have BK190 := n0_
     have BK191 := n1_
     have HB := n2_
     clear n0_ n1_ n2_
     (try clear hb)
     (try clear hb2)
     (try clear hk)
     (try clear hi)
     refine hK.out _ _ ⟨(blk_cell BK190.out 0).trans rfl, (blk_cell BK190.out 1).trans rfl, (blk_cell BK190.out 2).trans rfl, (blk_cell BK191.out 0).trans rfl, (blk_cell BK191.out 1).trans rfl, (blk_cell BK191.out 2).trans rfl⟩ (fun hHeld => ?_)
     clear hK K
     refine norm_ (a' := ?_) ?_ ?_
     rotate_left
     ·show Act.put _ (some 28) _ = _
      simp only [Act.put, List.setIfInBounds_toArray, List.set_cons_zero, List.set_cons_succ, i64_w, i32_w]
      rfl
     refine pure_ (i := 4) (N := some 29) (v := ?_) (a' := ?_) #[true, true, true, true, true, false] rfl rfl (by kernel_rfl) (fun _ _ _ h => h) (Or.inl ⟨by rfl, ?_⟩) ?_ ?_
     rotate_left
     ·intro w'
      go_simp
      with_reducible rfl
     rotate_left
     ·simp only [Act.put, List.setIfInBounds_toArray, List.set_cons_zero, List.set_cons_succ, i64_w, i32_w]
      rfl
     refine pure_ (i := 5) (N := some 24) (v := ?_) (a' := ?_) #[true, true, true, true, true, true] rfl rfl (by kernel_rfl) (fun _ _ _ h => h) (Or.inl ⟨by rfl, ?_⟩) ?_ ?_
     rotate_left
     ·intro w'
      go_simp
      with_reducible rfl
     rotate_left
     ·simp only [Act.put, List.setIfInBounds_toArray, List.set_cons_zero, List.set_cons_succ, i64_w, i32_w]
      rfl
     refine done_ (by kernel_rfl) ?_
     try go_wp2
     have n0_ := asd (blk_drew BK190.out)
     have n1_ := asd (blk_drew BK191.out)
     have n2_ := asd (below_drew1 HB.out)
     clear BK190
     clear BK191
     clear HB
     have BK190 := n0_
     have BK191 := n1_
     have HB := n2_
     clear n0_ n1_ n2_
     refine start_ (n := 6) (S := fun w' => w'.cell? ⟨gb190, 0, none⟩ = some (.bool a0_0) ∧ w'.cell? ⟨gb190, 1, none⟩ = some (.slice A0_1 l0_1.length c0_1) ∧ w'.cell? ⟨gb190, 2, none⟩ = some (.int .i64 a0_2) ∧ w'.cell? ⟨gb191, 0, none⟩ = some (.bool a1_0) ∧ w'.cell? ⟨gb191, 1, none⟩ = some (.slice A1_1 l1_1.length c1_1) ∧ w'.cell? ⟨gb191, 2, none⟩ = some (.int .i64 a1_2)) (ds := []) #[false, false, false, false, false, false] (by kernel_rfl) rfl rfl ⟨(blk_cell BK190.out 0).trans rfl, (blk_cell BK190.out 1).trans rfl, (blk_cell BK190.out 2).trans rfl, (blk_cell BK191.out 0).trans rfl, (blk_cell BK191.out 1).trans rfl, (blk_cell BK191.out 2).trans rfl⟩ (fun hHeld => ?_)
     generalize w38.drew = w39 at BK190 BK191 HB hHeld ⊢
     refine take_ (i := 0) (N := some 30) (v := ?_) (a' := ?_) #[true, false, false, false, false, false] rfl rfl (by kernel_rfl) (fun _ _ _ h => h) (Or.inl ⟨by rfl, ?_⟩) hHeld ?_ ?_
     rotate_left
     ·rintro w' ⟨s0, s1, s2, s3, s4, s5⟩
      go_simp
      with_reducible rfl
     rotate_left
     ·simp only [Act.put, List.setIfInBounds_toArray, List.set_cons_zero, List.set_cons_succ, i64_w, i32_w]
      rfl
     refine take_ (i := 2) (N := some 32) (v := ?_) (a' := ?_) #[true, false, true, false, false, false] rfl rfl (by kernel_rfl) (fun _ _ _ h => h) (Or.inl ⟨by rfl, ?_⟩) hHeld ?_ ?_
     rotate_left
     ·rintro w' ⟨s0, s1, s2, s3, s4, s5⟩
      go_simp
      with_reducible rfl
     rotate_left
     ·simp only [Act.put, List.setIfInBounds_toArray, List.set_cons_zero, List.set_cons_succ, i64_w, i32_w]
      rfl
     refine one_ (i := 1) (N := some 31) #[true, true, true, false, false, false] rfl rfl (by kernel_rfl) (by decide) (fun K hK => ?_)
     refine goes_ Tryz.func101 (by kernel_rfl) rfl #[.agg #[.bool a0_0, .slice A0_1 l0_1.length c0_1, .int .i64 a0_2]] (by rfl) rfl rfl eqA ?_
     with_reducible refine (cuspref02_High.calls kj2 a0_0 _ _ l0_1 a0_2 t201 _ ?side1 ?side2 A34.out).mono ?_
     (case side1 => repeat (first | exact (Kd.C_below HR0_1.out HB.out) | (with_reducible refine Kd.C_alloc ?_ _) | (with_reducible refine Kd.C_drewN ?_ _) | (with_reducible refine Kd.C_drew ?_)))
     (case side2 => exact HC0_1.out)
     rintro e w40 ⟨rfl, hb⟩
     refine ⟨_, rfl, ?_⟩
     have n0_ := asd (blk_below (g := gb190) (o := .cells #[.bool a0_0, .slice A0_1 l0_1.length c0_1, .int .i64 a0_2] 41 (0, 0)) (blkU BK190.out) hb)
     have n1_ := asd (blk_below (g := gb191) (o := .cells #[.bool a1_0, .slice A1_1 l1_1.length c1_1, .int .i64 a1_2] 41 (0, 0)) (blkU BK191.out) hb)
     have n2_ := asd (below_step (by repeat (first | (with_reducible first | exact HB.out | apply below_alloc | apply pw_below_drewN | apply below_drew1 | refine below_set ?_ GE190.out | refine below_set ?_ GE191.out) | exact HB.out)) hb)
     clear BK190
     clear BK191
     clear HB
     have BK190 := n0_
     have BK191 := n1_
     have HB := n2_
     clear n0_ n1_ n2_
     (try clear hb)
     (try clear hb2)
     (try clear hk)
     (try clear hi)
     refine hK.out _ _ ⟨(blk_cell BK190.out 0).trans rfl, (blk_cell BK190.out 1).trans rfl, (blk_cell BK190.out 2).trans rfl, (blk_cell BK191.out 0).trans rfl, (blk_cell BK191.out 1).trans rfl, (blk_cell BK191.out 2).trans rfl⟩ (fun hHeld => ?_)
     clear hK K
     refine norm_ (a' := ?_) ?_ ?_
     rotate_left
     ·show Act.put _ (some 31) _ = _
      simp only [Act.put, List.setIfInBounds_toArray, List.set_cons_zero, List.set_cons_succ, i64_w, i32_w]
      rfl
     refine one_ (i := 3) (N := some 33) #[true, true, true, true, false, false] rfl rfl (by kernel_rfl) (by decide) (fun K hK => ?_)
     refine goes_ Tryz.func101 (by kernel_rfl) rfl #[.agg #[.bool a1_0, .slice A1_1 l1_1.length c1_1, .int .i64 a1_2]] (by rfl) rfl rfl eqA ?_
     with_reducible refine (cuspref02_High.calls kj2 a1_0 _ _ l1_1 a1_2 t202 _ ?side1 ?side2 A35.out).mono ?_
     (case side1 => repeat (first | exact (Kd.C_below HR1_1.out HB.out) | (with_reducible refine Kd.C_alloc ?_ _) | (with_reducible refine Kd.C_drewN ?_ _) | (with_reducible refine Kd.C_drew ?_)))
     (case side2 => exact HC1_1.out)
     rintro e w41 ⟨rfl, hb⟩
     refine ⟨_, rfl, ?_⟩
     have n0_ := asd (blk_below (g := gb190) (o := .cells #[.bool a0_0, .slice A0_1 l0_1.length c0_1, .int .i64 a0_2] 41 (0, 0)) (blkU BK190.out) hb)
     have n1_ := asd (blk_below (g := gb191) (o := .cells #[.bool a1_0, .slice A1_1 l1_1.length c1_1, .int .i64 a1_2] 41 (0, 0)) (blkU BK191.out) hb)
     have n2_ := asd (below_step (by repeat (first | (with_reducible first | exact HB.out | apply below_alloc | apply pw_below_drewN | apply below_drew1 | refine below_set ?_ GE190.out | refine below_set ?_ GE191.out) | exact HB.out)) hb)
     clear BK190
     clear BK191
     clear HB
     have BK190 := n0_
     have BK191 := n1_
     have HB := n2_
     clear n0_ n1_ n2_
     (try clear hb)
     (try clear hb2)
     (try clear hk)
     (try clear hi)
     refine hK.out _ _ ⟨(blk_cell BK190.out 0).trans rfl, (blk_cell BK190.out 1).trans rfl, (blk_cell BK190.out 2).trans rfl, (blk_cell BK191.out 0).trans rfl, (blk_cell BK191.out 1).trans rfl, (blk_cell BK191.out 2).trans rfl⟩ (fun hHeld => ?_)
     clear hK K
     refine norm_ (a' := ?_) ?_ ?_
     rotate_left
     ·show Act.put _ (some 33) _ = _
      simp only [Act.put, List.setIfInBounds_toArray, List.set_cons_zero, List.set_cons_succ, i64_w, i32_w]
      rfl
     refine pure_ (i := 4) (N := some 34) (v := ?_) (a' := ?_) #[true, true, true, true, true, false] rfl rfl (by kernel_rfl) (fun _ _ _ h => h) (Or.inl ⟨by rfl, ?_⟩) ?_ ?_
     rotate_left
     ·intro w'
      go_simp
      with_reducible rfl
     rotate_left
     ·simp only [Act.put, List.setIfInBounds_toArray, List.set_cons_zero, List.set_cons_succ, i64_w, i32_w]
      rfl
     refine pure_ (i := 5) (N := some 4) (v := ?_) (a' := ?_) #[true, true, true, true, true, true] rfl rfl (by kernel_rfl) (fun _ _ _ h => h) (Or.inl ⟨by rfl, ?_⟩) ?_ ?_
     rotate_left
     ·intro w'
      go_simp
      with_reducible rfl
     rotate_left
     ·simp only [Act.put, List.setIfInBounds_toArray, List.set_cons_zero, List.set_cons_succ, i64_w, i32_w]
      rfl
     refine done_ (by kernel_rfl) ?_
     try go_wp2
     go_ret
     exact ⟨eqC, by repeat (first | (with_reducible first | exact HB.out | apply below_alloc | apply pw_below_drewN | apply below_drew1 | refine below_set ?_ GE190.out | refine below_set ?_ GE191.out) | exact HB.out)⟩
end Go.Proofs.YthmeocigliephaaGreatDoor.PSv
end
section
namespace Go.Proofs.YthmeocigliephaaGreatDoor.PSv
open Go.Proofs.YthmeocigliephaaGreatDoor.PSu Go.RowKit Go.Proofs.YthmeocigliephaaGreatDoorW.PrintWords Go.Proofs.YthmeocigliephaaGreatDoorW.PrintLast Go.Proofs.YthmeocigliephaaGreatDoorW.PrintMore
attribute [local go_sem] f64bits_run f64from_run run_float_some max2_int min2_int max_two min_two max_three min_three max_four min_four
def cuspref02_Order.j0 : Nat → Int → Option (Int)
 | 0, _ => none
 | k + 1, x7 => if x7 < 0 then (some (-1)) else (if x7 > 0 then (some 1) else (some 0))
def cuspref02_Order.f (k : Nat) (a0_0 : Bool) (l0_1 : List Int) (a0_2 : Int) (a1_0 : Bool) (l1_1 : List Int) (a1_2 : Int) : Option (Int) := (cuspref02_Sgn.f a0_0 l0_1 a0_2).bind fun t205 => ((cuspref02_Sgn.f a1_0 l1_1 a1_2).bind fun t206 => (if t205 = t206 then ((cuspref02_magnitude.f k a0_0 l0_1 a0_2 a1_0 l1_1 a1_2).bind fun t207 => (if t205 < 0 then (cuspref02_Order.j0 k (wrap64 (-t207))) else (cuspref02_Order.j0 k t207))) else (if t205 < t206 then (some (-1)) else (some 1))))
theorem cuspref02_Order.mono_l : ∀ k, (∀ y0, LeO (cuspref02_Order.j0 k y0) (cuspref02_Order.j0 (k + 1) y0))
 | 0 => fun _ r h => by simp [cuspref02_Order.j0] at h
 | k + 1 => by
  have ih0 := cuspref02_Order.mono_l k
  ·intro y0
   unfold cuspref02_Order.j0
   repeat' first
   | (with_reducible exact ih0 _)
   | (with_reducible exact cuspref02_magnitude.mono _ _ _ _ _ _ _)
   | (with_reducible exact LeO.refl _)
   | (with_reducible exact LeO.none _)
   | (with_reducible refine LeO.ite ?_ ?_)
   | (with_reducible refine LeO.bind ?_ (fun _ => ?_))
   | exact ih0 _
   | exact cuspref02_magnitude.mono _ _ _ _ _ _ _
   | exact LeO.none _
   | refine LeO.ite ?_ ?_
   | refine LeO.bind ?_ (fun _ => ?_)
theorem cuspref02_Order.mono : ∀ a0 a1 a2 a3 a4 a5 k, LeO (cuspref02_Order.f k a0 a1 a2 a3 a4 a5) (cuspref02_Order.f (k + 1) a0 a1 a2 a3 a4 a5) := by
 intro a0 a1 a2 a3 a4 a5 k
 have ih0 := cuspref02_Order.mono_l k
 unfold cuspref02_Order.f
 repeat' first
   | (with_reducible exact ih0 _)
   | (with_reducible exact cuspref02_magnitude.mono _ _ _ _ _ _ _)
   | (with_reducible exact LeO.refl _)
   | (with_reducible exact LeO.none _)
   | (with_reducible refine LeO.ite ?_ ?_)
   | (with_reducible refine LeO.bind ?_ (fun _ => ?_))
   | exact ih0 _
   | exact cuspref02_magnitude.mono _ _ _ _ _ _ _
   | exact LeO.none _
   | refine LeO.ite ?_ ?_
   | refine LeO.bind ?_ (fun _ => ?_)
theorem cuspref02_Order.calls (k : Nat) (a0_0 : Bool) (A0_1 : Option Addr) (c0_1 : Nat) (l0_1 : List Int) (a0_2 : Int) (a1_0 : Bool) (A1_1 : Option Addr) (c1_1 : Nat) (l1_1 : List Int) (a1_2 : Int) (r : Int) (w : World) (hr0_1 : Kd.C (Kd.int .u32) w A0_1 l0_1.length l0_1) (hc0_1 : l0_1.length ≤ c0_1) (hr1_1 : Kd.C (Kd.int .u32) w A1_1 l1_1.length l1_1) (hc1_1 : l1_1.length ≤ c1_1) (h : cuspref02_Order.f k a0_0 l0_1 a0_2 a1_0 l1_1 a1_2 = some r) :
  Calls Tryz.prog 27 #[.agg #[.bool a0_0, .slice A0_1 l0_1.length c0_1, .int .i64 a0_2], .agg #[.bool a1_0, .slice A1_1 l1_1.length c1_1, .int .i64 a1_2]] w fun e w' => e = .returned (.int .i64 r) ∧ Below w.heap.size w w' := by
 have hu41 := Tryz.underlying41
 have HR0_1 := asd hr0_1
 have HC0_1 := asd hc0_1
 clear hr0_1 hc0_1
 have HR1_1 := asd hr1_1
 have HC1_1 := asd hc1_1
 clear hr1_1 hc1_1
 have HB := asd (Below.refl w.heap.size w)
 have H : ((cuspref02_Sgn.f a0_0 l0_1 a0_2).bind fun t205 => ((cuspref02_Sgn.f a1_0 l1_1 a1_2).bind fun t206 => (if t205 = t206 then ((cuspref02_magnitude.f k a0_0 l0_1 a0_2 a1_0 l1_1 a1_2).bind fun t207 => (if t205 < 0 then (cuspref02_Order.j0 k (wrap64 (-t207))) else (cuspref02_Order.j0 k t207))) else (if t205 < t206 then (some (-1)) else (some 1))))) = some r := h
 clear h
 replace H := Option.bind_eq_some_iff.mp H
 obtain ⟨t205, A30, H⟩ := H
 replace H : ((cuspref02_Sgn.f a1_0 l1_1 a1_2).bind fun t206 => (if t205 = t206 then ((cuspref02_magnitude.f k a0_0 l0_1 a0_2 a1_0 l1_1 a1_2).bind fun t207 => (if t205 < 0 then (cuspref02_Order.j0 k (wrap64 (-t207))) else (cuspref02_Order.j0 k t207))) else (if t205 < t206 then (some (-1)) else (some 1)))) = some r := H
 have A3 := asd A30
 clear A30
 replace H := Option.bind_eq_some_iff.mp H
 obtain ⟨t206, A40, H⟩ := H
 replace H : (if t205 = t206 then ((cuspref02_magnitude.f k a0_0 l0_1 a0_2 a1_0 l1_1 a1_2).bind fun t207 => (if t205 < 0 then (cuspref02_Order.j0 k (wrap64 (-t207))) else (cuspref02_Order.j0 k t207))) else (if t205 < t206 then (some (-1)) else (some 1))) = some r := H
 have A4 := asd A40
 clear A40
 by_cases c5 : t205 = t206
 ·rw [if_pos c5] at H
  have c5b0 : (t205 == t206) = true := beq_iff_eq.mpr c5
  have c5b1 : (t205 != t206) = false := bne_eq_false_iff_eq.mpr c5
  clear c5
  replace H := Option.bind_eq_some_iff.mp H
  obtain ⟨t207, A60, H⟩ := H
  replace H : (if t205 < 0 then (cuspref02_Order.j0 k (wrap64 (-t207))) else (cuspref02_Order.j0 k t207)) = some r := H
  have A6 := asd A60
  clear A60
  have HC7 := asd H
  clear H
  go_enter Tryz.func27, Tryz.ntmps27
  try go_wp2_with (first | ((with_reducible refine gate_dst (N := 2) rfl ?_); refine box_event ?hg (N := 2) ?hd (cs := #[.bool a0_0, .slice A0_1 l0_1.length c0_1, .int .i64 a0_2]) (t := 41) ?hr ?_; (case hd => rfl); (case hg => rfl); (case hr => first | (go_simp; done) | (go_simp; rfl)); intro gb203 hg w8 hbox hb; have n0_ := asd (below_step hbw hb); have n1_ := asd (hbox); have n2_ := asd ((by rw [hg]; exact (below_size hbw) : w.heap.size ≤ gb203)); have n3_ := asd ((by rw [hg]; exact (below_size hbw) : w.heap.size ≤ gb203)); clear HB; have HB := n0_; have BK203 := n1_; have GW203 := n2_; have GE203 := n3_; clear n0_ n1_ n2_ n3_; clear hb hbox hg) | ((with_reducible refine gate_dst (N := 3) rfl ?_); refine box_event ?hg (N := 3) ?hd (cs := #[.bool a1_0, .slice A1_1 l1_1.length c1_1, .int .i64 a1_2]) (t := 41) ?hr ?_; (case hd => rfl); (case hg => rfl); (case hr => first | (go_simp; done) | (go_simp; rfl)); intro gb204 hg w9 hbox hb; have n0_ := asd (blk_below (g := gb203) (o := .cells #[.bool a0_0, .slice A0_1 l0_1.length c0_1, .int .i64 a0_2] 41 (0, 0)) (blkU BK203.out) hb); have n1_ := asd (below_step (by repeat (first | (with_reducible first | exact HB.out | apply below_alloc | apply pw_below_drewN | apply below_drew1 | refine below_set ?_ GE203.out) | exact HB.out)) hb); have n2_ := asd (hbox); have n3_ := asd ((by rw [hg]; exact (below_size (by repeat (first | (with_reducible first | exact HB.out | apply below_alloc | apply pw_below_drewN | apply below_drew1 | refine below_set ?_ GE203.out) | exact HB.out))) : w.heap.size ≤ gb204)); have n4_ := asd ((by rw [hg]; exact (below_size (by repeat (first | (with_reducible first | exact HB.out | apply below_alloc | apply pw_below_drewN | apply below_drew1 | refine below_set ?_ GE203.out) | exact HB.out))) : w.heap.size ≤ gb204)); have n5_ := asd ((by rw [hg]; exact Nat.ne_of_lt (blk_lt (g := gb203) (o := .cells #[.bool a0_0, .slice A0_1 l0_1.length c0_1, .int .i64 a0_2] 41 (0, 0)) (blkU BK203.out)) : gb203 ≠ gb204)); have n6_ := asd ((by rw [hg]; exact Nat.ne_of_gt (blk_lt (g := gb203) (o := .cells #[.bool a0_0, .slice A0_1 l0_1.length c0_1, .int .i64 a0_2] 41 (0, 0)) (blkU BK203.out)) : gb204 ≠ gb203)); clear BK203; clear HB; have BK203 := n0_; have HB := n1_; have BK204 := n2_; have GW204 := n3_; have GE204 := n4_; have NB203_204 := n5_; have NB204_203 := n6_; clear n0_ n1_ n2_ n3_ n4_ n5_ n6_; clear hb hbox hg))
  have n0_ := asd (blk_drew BK203.out)
  have n1_ := asd (blk_drew BK204.out)
  have n2_ := asd (below_drew1 HB.out)
  clear BK203
  clear BK204
  clear HB
  have BK203 := n0_
  have BK204 := n1_
  have HB := n2_
  clear n0_ n1_ n2_
  refine start_ (n := 6) (S := fun w' => w'.cell? ⟨gb203, 0, none⟩ = some (.bool a0_0) ∧ w'.cell? ⟨gb203, 1, none⟩ = some (.slice A0_1 l0_1.length c0_1) ∧ w'.cell? ⟨gb203, 2, none⟩ = some (.int .i64 a0_2) ∧ w'.cell? ⟨gb204, 0, none⟩ = some (.bool a1_0) ∧ w'.cell? ⟨gb204, 1, none⟩ = some (.slice A1_1 l1_1.length c1_1) ∧ w'.cell? ⟨gb204, 2, none⟩ = some (.int .i64 a1_2)) (ds := []) #[false, false, false, false, false, false] (by kernel_rfl) rfl rfl ⟨(blk_cell BK203.out 0).trans rfl, (blk_cell BK203.out 1).trans rfl, (blk_cell BK203.out 2).trans rfl, (blk_cell BK204.out 0).trans rfl, (blk_cell BK204.out 1).trans rfl, (blk_cell BK204.out 2).trans rfl⟩ (fun hHeld => ?_)
  generalize w9.drew = w10 at BK203 BK204 HB hHeld ⊢
  refine take_ (i := 0) (N := some 8) (v := ?_) (a' := ?_) #[true, false, false, false, false, false] rfl rfl (by kernel_rfl) (fun _ _ _ h => h) (Or.inl ⟨by rfl, ?_⟩) hHeld ?_ ?_
  rotate_left
  ·rintro w' ⟨s0, s1, s2, s3, s4, s5⟩
   go_simp
   with_reducible rfl
  rotate_left
  ·simp only [Act.put, List.setIfInBounds_toArray, List.set_cons_zero, List.set_cons_succ, i64_w, i32_w]
   rfl
  refine take_ (i := 2) (N := some 10) (v := ?_) (a' := ?_) #[true, false, true, false, false, false] rfl rfl (by kernel_rfl) (fun _ _ _ h => h) (Or.inl ⟨by rfl, ?_⟩) hHeld ?_ ?_
  rotate_left
  ·rintro w' ⟨s0, s1, s2, s3, s4, s5⟩
   go_simp
   with_reducible rfl
  rotate_left
  ·simp only [Act.put, List.setIfInBounds_toArray, List.set_cons_zero, List.set_cons_succ, i64_w, i32_w]
   rfl
  refine one_ (i := 1) (N := some 9) #[true, true, true, false, false, false] rfl rfl (by kernel_rfl) (by decide) (fun K hK => ?_)
  refine goes_ Tryz.func32 (by kernel_rfl) rfl #[.agg #[.bool a0_0, .slice A0_1 l0_1.length c0_1, .int .i64 a0_2]] (by rfl) rfl rfl eqA ?_
  with_reducible refine (cuspref02_Sgn.calls a0_0 _ _ l0_1 a0_2 t205 _ ?side1 ?side2 A3.out).mono ?_
  (case side1 => repeat (first | exact (Kd.C_below HR0_1.out HB.out) | (with_reducible refine Kd.C_alloc ?_ _) | (with_reducible refine Kd.C_drewN ?_ _) | (with_reducible refine Kd.C_drew ?_)))
  (case side2 => exact HC0_1.out)
  rintro e w11 ⟨rfl, hb⟩
  refine ⟨_, rfl, ?_⟩
  have n0_ := asd (blk_below (g := gb203) (o := .cells #[.bool a0_0, .slice A0_1 l0_1.length c0_1, .int .i64 a0_2] 41 (0, 0)) (blkU BK203.out) hb)
  have n1_ := asd (blk_below (g := gb204) (o := .cells #[.bool a1_0, .slice A1_1 l1_1.length c1_1, .int .i64 a1_2] 41 (0, 0)) (blkU BK204.out) hb)
  have n2_ := asd (below_step (by repeat (first | (with_reducible first | exact HB.out | apply below_alloc | apply pw_below_drewN | apply below_drew1 | refine below_set ?_ GE203.out | refine below_set ?_ GE204.out) | exact HB.out)) hb)
  clear BK203
  clear BK204
  clear HB
  have BK203 := n0_
  have BK204 := n1_
  have HB := n2_
  clear n0_ n1_ n2_
  (try clear hb)
  (try clear hb2)
  (try clear hk)
  (try clear hi)
  refine hK.out _ _ ⟨(blk_cell BK203.out 0).trans rfl, (blk_cell BK203.out 1).trans rfl, (blk_cell BK203.out 2).trans rfl, (blk_cell BK204.out 0).trans rfl, (blk_cell BK204.out 1).trans rfl, (blk_cell BK204.out 2).trans rfl⟩ (fun hHeld => ?_)
  clear hK K
  refine norm_ (a' := ?_) ?_ ?_
  rotate_left
  ·show Act.put _ (some 9) _ = _
   simp only [Act.put, List.setIfInBounds_toArray, List.set_cons_zero, List.set_cons_succ, i64_w, i32_w]
   rfl
  refine one_ (i := 3) (N := some 11) #[true, true, true, true, false, false] rfl rfl (by kernel_rfl) (by decide) (fun K hK => ?_)
  refine goes_ Tryz.func32 (by kernel_rfl) rfl #[.agg #[.bool a1_0, .slice A1_1 l1_1.length c1_1, .int .i64 a1_2]] (by rfl) rfl rfl eqA ?_
  with_reducible refine (cuspref02_Sgn.calls a1_0 _ _ l1_1 a1_2 t206 _ ?side1 ?side2 A4.out).mono ?_
  (case side1 => repeat (first | exact (Kd.C_below HR1_1.out HB.out) | (with_reducible refine Kd.C_alloc ?_ _) | (with_reducible refine Kd.C_drewN ?_ _) | (with_reducible refine Kd.C_drew ?_)))
  (case side2 => exact HC1_1.out)
  rintro e w12 ⟨rfl, hb⟩
  refine ⟨_, rfl, ?_⟩
  have n0_ := asd (blk_below (g := gb203) (o := .cells #[.bool a0_0, .slice A0_1 l0_1.length c0_1, .int .i64 a0_2] 41 (0, 0)) (blkU BK203.out) hb)
  have n1_ := asd (blk_below (g := gb204) (o := .cells #[.bool a1_0, .slice A1_1 l1_1.length c1_1, .int .i64 a1_2] 41 (0, 0)) (blkU BK204.out) hb)
  have n2_ := asd (below_step (by repeat (first | (with_reducible first | exact HB.out | apply below_alloc | apply pw_below_drewN | apply below_drew1 | refine below_set ?_ GE203.out | refine below_set ?_ GE204.out) | exact HB.out)) hb)
  clear BK203
  clear BK204
  clear HB
  have BK203 := n0_
  have BK204 := n1_
  have HB := n2_
  clear n0_ n1_ n2_
  (try clear hb)
  (try clear hb2)
  (try clear hk)
  (try clear hi)
  refine hK.out _ _ ⟨(blk_cell BK203.out 0).trans rfl, (blk_cell BK203.out 1).trans rfl, (blk_cell BK203.out 2).trans rfl, (blk_cell BK204.out 0).trans rfl, (blk_cell BK204.out 1).trans rfl, (blk_cell BK204.out 2).trans rfl⟩ (fun hHeld => ?_)
  clear hK K
  refine norm_ (a' := ?_) ?_ ?_
  rotate_left
  ·show Act.put _ (some 11) _ = _
   simp only [Act.put, List.setIfInBounds_toArray, List.set_cons_zero, List.set_cons_succ, i64_w, i32_w]
   rfl
  refine pure_ (i := 4) (N := some 5) (v := ?_) (a' := ?_) #[true, true, true, true, true, false] rfl rfl (by kernel_rfl) (fun _ _ _ h => h) (Or.inl ⟨by rfl, ?_⟩) ?_ ?_
  rotate_left
  ·intro w'
   go_simp
   with_reducible rfl
  rotate_left
  ·simp only [Act.put, List.setIfInBounds_toArray, List.set_cons_zero, List.set_cons_succ, i64_w, i32_w]
   rfl
  refine pure_ (i := 5) (N := some 6) (v := ?_) (a' := ?_) #[true, true, true, true, true, true] rfl rfl (by kernel_rfl) (fun _ _ _ h => h) (Or.inl ⟨by rfl, ?_⟩) ?_ ?_
  rotate_left
  ·intro w'
   go_simp
   with_reducible rfl
  rotate_left
  ·simp only [Act.put, List.setIfInBounds_toArray, List.set_cons_zero, List.set_cons_succ, i64_w, i32_w]
   rfl
  refine done_ (by kernel_rfl) ?_
  have hnb13 := NB203_204.out
  have hnc13 := NB204_203.out
  have hcz14_0 : w12.cell? ⟨gb203, 0, none⟩ = some (.bool a0_0) := (blk_cell BK203.out 0).trans rfl
  have hcz14_1 : w12.cell? ⟨gb203, 1, none⟩ = some (.slice A0_1 l0_1.length c0_1) := (blk_cell BK203.out 1).trans rfl
  have hcz14_2 : w12.cell? ⟨gb203, 2, none⟩ = some (.int .i64 a0_2) := (blk_cell BK203.out 2).trans rfl
  have hfz14_0 := blk_frozen BK203.out 0
  have hfz14_1 := blk_frozen BK203.out 1
  have hfz14_2 := blk_frozen BK203.out 2
  have hcz15_0 : w12.cell? ⟨gb204, 0, none⟩ = some (.bool a1_0) := (blk_cell BK204.out 0).trans rfl
  have hcz15_1 : w12.cell? ⟨gb204, 1, none⟩ = some (.slice A1_1 l1_1.length c1_1) := (blk_cell BK204.out 1).trans rfl
  have hcz15_2 : w12.cell? ⟨gb204, 2, none⟩ = some (.int .i64 a1_2) := (blk_cell BK204.out 2).trans rfl
  have hfz15_0 := blk_frozen BK204.out 0
  have hfz15_1 := blk_frozen BK204.out 1
  have hfz15_2 := blk_frozen BK204.out 2
  go_upto_if 22 with (first | ((with_reducible refine gate_callee (f := 70) rfl ?_); refine goesL_ (some 20) rfl rfl Tryz.func70 (by kernel_rfl) rfl #[.agg #[.bool a0_0, .slice A0_1 l0_1.length c0_1, .int .i64 a0_2], .agg #[.bool a1_0, .slice A1_1 l1_1.length c1_1, .int .i64 a1_2]] rfl eqA ?_; (with_reducible refine (cuspref02_magnitude.calls k a0_0 _ _ l0_1 a0_2 a1_0 _ _ l1_1 a1_2 t207 _ ?side1 ?side2 ?side3 ?side4 A6.out).mono ?_); (case side1 => repeat (first | exact (Kd.C_below HR0_1.out HB.out) | (with_reducible refine Kd.C_alloc ?_ _) | (with_reducible refine Kd.C_drewN ?_ _) | (with_reducible refine Kd.C_drew ?_))); (case side2 => exact HC0_1.out); (case side3 => repeat (first | exact (Kd.C_below HR1_1.out HB.out) | (with_reducible refine Kd.C_alloc ?_ _) | (with_reducible refine Kd.C_drewN ?_ _) | (with_reducible refine Kd.C_drew ?_))); (case side4 => exact HC1_1.out); rintro e w16 ⟨rfl, hb⟩; refine ⟨_, rfl, ?_⟩; have n0_ := asd (blk_below (g := gb203) (o := .cells #[.bool a0_0, .slice A0_1 l0_1.length c0_1, .int .i64 a0_2] 41 (0, 0)) (blkU BK203.out) hb); have n1_ := asd (blk_below (g := gb204) (o := .cells #[.bool a1_0, .slice A1_1 l1_1.length c1_1, .int .i64 a1_2] 41 (0, 0)) (blkU BK204.out) hb); have n2_ := asd (below_step (by repeat (first | (with_reducible first | exact HB.out | apply below_alloc | apply pw_below_drewN | apply below_drew1 | refine below_set ?_ GE203.out | refine below_set ?_ GE204.out) | exact HB.out)) hb); clear BK203; clear BK204; clear HB; have BK203 := n0_; have BK204 := n1_; have HB := n2_; clear n0_ n1_ n2_; (try clear hb); (try clear hb2); (try clear hk); (try clear hi)))
  (try simp only [Act.put, List.setIfInBounds_toArray, List.set_cons_zero, List.set_cons_succ])
  go_cut [7] (fun v7 wc => ∃ (kq : Nat) (x7_6 : Int), v7 = .int .i64 x7_6 ∧ Aside0 (cuspref02_Order.j0 kq x7_6 = some r) ∧ Aside0 (kq ≤ k) ∧ Aside0 (wc.heap[gb203]? = some (.cells #[.bool a0_0, (.slice A0_1 l0_1.length c0_1), .int .i64 a0_2] 41 (0, 0))) ∧ Aside0 (wc.heap[gb204]? = some (.cells #[.bool a1_0, (.slice A1_1 l1_1.length c1_1), .int .i64 a1_2] 41 (0, 0))) ∧ Aside0 (Below w.heap.size w wc))
  case first =>
   have H := HC7.out
   clear HC7
   by_cases c17 : t205 < 0
   ·rw [if_pos c17] at H
    have c17b0 : decide (t205 < 0) = true := decide_eq_true c17
    clear c17
    (first | rw [c17b0] | (simp only [i64_w, i32_w]; rw [c17b0]) | skip)
    have H' := asd H
    clear H
    go_wp2
    go_meet
    case rel => exact ⟨_, (wrap64 (-t207)), eqB, H', ⟨by first | omega | exact Nat.le_refl _⟩, ⟨by (with_reducible repeat (first | refine blk_drewN ?_ _ | refine blk_drew ?_ | refine blk_alloc ?_ _)); exact BK203.out⟩, ⟨by (with_reducible repeat (first | refine blk_drewN ?_ _ | refine blk_drew ?_ | refine blk_alloc ?_ _)); exact BK204.out⟩, ⟨by repeat (first | (with_reducible first | exact HB.out | apply below_alloc | apply pw_below_drewN | apply below_drew1 | refine below_set ?_ GE203.out | refine below_set ?_ GE204.out) | exact HB.out)⟩⟩
   ·rw [if_neg c17] at H
    have c17b0 : decide (t205 < 0) = false := decide_eq_false c17
    clear c17
    (first | rw [c17b0] | (simp only [i64_w, i32_w]; rw [c17b0]) | skip)
    have H' := asd H
    clear H
    go_wp2
    go_meet
    case rel => exact ⟨_, (t207), eqB, H', ⟨by first | omega | exact Nat.le_refl _⟩, ⟨by (with_reducible repeat (first | refine blk_drewN ?_ _ | refine blk_drew ?_ | refine blk_alloc ?_ _)); exact BK203.out⟩, ⟨by (with_reducible repeat (first | refine blk_drewN ?_ _ | refine blk_drew ?_ | refine blk_alloc ?_ _)); exact BK204.out⟩, ⟨by repeat (first | (with_reducible first | exact HB.out | apply below_alloc | apply pw_below_drewN | apply below_drew1 | refine below_set ?_ GE203.out | refine below_set ?_ GE204.out) | exact HB.out)⟩⟩
  case rest =>
   clear HC7
   try clear c1
   try clear c2
   try clear p2
   try clear c3
   try clear c5
   try clear c5b0
   try clear c5b1
   try clear p6
   try clear c7
   try clear c13
   try clear c17
   try clear c17b0
   try clear hcz14_0
   try clear hcz14_1
   try clear hcz14_2
   try clear hcz15_0
   try clear hcz15_1
   try clear hcz15_2
   try clear hfz14_0
   try clear hfz14_1
   try clear hfz14_2
   try clear hfz15_0
   try clear hfz15_1
   try clear hfz15_2
   obtain ⟨kq, x7_6, rfl, HA, HJ6, BK203, BK204, HB⟩ := hcut
   cases kq with
   | zero => exact absurd HA.out (by simp [cuspref02_Order.j0])
   | succ kj6 =>
    have H := HA.out
    clear HA
    simp only [cuspref02_Order.j0] at H
    by_cases c18 : x7_6 < 0
    ·rw [if_pos c18] at H
     have c18b0 : decide (x7_6 < 0) = true := decide_eq_true c18
     clear c18
     obtain rfl := Option.some.inj H
     go_wp2
     go_ret
     exact ⟨eqC, by repeat (first | (with_reducible first | exact HB.out | apply below_alloc | apply pw_below_drewN | apply below_drew1 | refine below_set ?_ GE203.out | refine below_set ?_ GE204.out) | exact HB.out)⟩
    ·rw [if_neg c18] at H
     have c18b0 : decide (x7_6 < 0) = false := decide_eq_false c18
     clear c18
     by_cases c19 : x7_6 > 0
     ·rw [if_pos c19] at H
      have c19b0 : decide (0 < x7_6) = true := decide_eq_true c19
      clear c19
      obtain rfl := Option.some.inj H
      go_wp2
      go_ret
      exact ⟨eqC, by repeat (first | (with_reducible first | exact HB.out | apply below_alloc | apply pw_below_drewN | apply below_drew1 | refine below_set ?_ GE203.out | refine below_set ?_ GE204.out) | exact HB.out)⟩
     ·rw [if_neg c19] at H
      have c19b0 : decide (0 < x7_6) = false := decide_eq_false c19
      clear c19
      obtain rfl := Option.some.inj H
      go_wp2
      go_ret
      exact ⟨eqC, by repeat (first | (with_reducible first | exact HB.out | apply below_alloc | apply pw_below_drewN | apply below_drew1 | refine below_set ?_ GE203.out | refine below_set ?_ GE204.out) | exact HB.out)⟩
 ·rw [if_neg c5] at H
  have c5b0 : (t205 == t206) = false := beq_eq_false_iff_ne.mpr c5
  have c5b1 : (t205 != t206) = true := bne_iff_ne.mpr c5
  by_cases c20 : t205 < t206
  ·rw [if_pos c20] at H
   have c20b0 : decide (t205 < t206) = true := decide_eq_true c20
   clear c20
   obtain rfl := Option.some.inj H
   go_enter Tryz.func27, Tryz.ntmps27
   try go_wp2_with (first | ((with_reducible refine gate_dst (N := 2) rfl ?_); refine box_event ?hg (N := 2) ?hd (cs := #[.bool a0_0, .slice A0_1 l0_1.length c0_1, .int .i64 a0_2]) (t := 41) ?hr ?_; (case hd => rfl); (case hg => rfl); (case hr => first | (go_simp; done) | (go_simp; rfl)); intro gb203 hg w21 hbox hb; have n0_ := asd (below_step hbw hb); have n1_ := asd (hbox); have n2_ := asd ((by rw [hg]; exact (below_size hbw) : w.heap.size ≤ gb203)); have n3_ := asd ((by rw [hg]; exact (below_size hbw) : w.heap.size ≤ gb203)); clear HB; have HB := n0_; have BK203 := n1_; have GW203 := n2_; have GE203 := n3_; clear n0_ n1_ n2_ n3_; clear hb hbox hg) | ((with_reducible refine gate_dst (N := 3) rfl ?_); refine box_event ?hg (N := 3) ?hd (cs := #[.bool a1_0, .slice A1_1 l1_1.length c1_1, .int .i64 a1_2]) (t := 41) ?hr ?_; (case hd => rfl); (case hg => rfl); (case hr => first | (go_simp; done) | (go_simp; rfl)); intro gb204 hg w22 hbox hb; have n0_ := asd (blk_below (g := gb203) (o := .cells #[.bool a0_0, .slice A0_1 l0_1.length c0_1, .int .i64 a0_2] 41 (0, 0)) (blkU BK203.out) hb); have n1_ := asd (below_step (by repeat (first | (with_reducible first | exact HB.out | apply below_alloc | apply pw_below_drewN | apply below_drew1 | refine below_set ?_ GE203.out) | exact HB.out)) hb); have n2_ := asd (hbox); have n3_ := asd ((by rw [hg]; exact (below_size (by repeat (first | (with_reducible first | exact HB.out | apply below_alloc | apply pw_below_drewN | apply below_drew1 | refine below_set ?_ GE203.out) | exact HB.out))) : w.heap.size ≤ gb204)); have n4_ := asd ((by rw [hg]; exact (below_size (by repeat (first | (with_reducible first | exact HB.out | apply below_alloc | apply pw_below_drewN | apply below_drew1 | refine below_set ?_ GE203.out) | exact HB.out))) : w.heap.size ≤ gb204)); have n5_ := asd ((by rw [hg]; exact Nat.ne_of_lt (blk_lt (g := gb203) (o := .cells #[.bool a0_0, .slice A0_1 l0_1.length c0_1, .int .i64 a0_2] 41 (0, 0)) (blkU BK203.out)) : gb203 ≠ gb204)); have n6_ := asd ((by rw [hg]; exact Nat.ne_of_gt (blk_lt (g := gb203) (o := .cells #[.bool a0_0, .slice A0_1 l0_1.length c0_1, .int .i64 a0_2] 41 (0, 0)) (blkU BK203.out)) : gb204 ≠ gb203)); clear BK203; clear HB; have BK203 := n0_; have HB := n1_; have BK204 := n2_; have GW204 := n3_; have GE204 := n4_; have NB203_204 := n5_; have NB204_203 := n6_; clear n0_ n1_ n2_ n3_ n4_ n5_ n6_; clear hb hbox hg))
   have n0_ := asd (blk_drew BK203.out)
   have n1_ := asd (blk_drew BK204.out)
   have n2_ := asd (below_drew1 HB.out)
   clear BK203
   clear BK204
   clear HB
   have BK203 := n0_
   have BK204 := n1_
   have HB := n2_
   clear n0_ n1_ n2_
   refine start_ (n := 6) (S := fun w' => w'.cell? ⟨gb203, 0, none⟩ = some (.bool a0_0) ∧ w'.cell? ⟨gb203, 1, none⟩ = some (.slice A0_1 l0_1.length c0_1) ∧ w'.cell? ⟨gb203, 2, none⟩ = some (.int .i64 a0_2) ∧ w'.cell? ⟨gb204, 0, none⟩ = some (.bool a1_0) ∧ w'.cell? ⟨gb204, 1, none⟩ = some (.slice A1_1 l1_1.length c1_1) ∧ w'.cell? ⟨gb204, 2, none⟩ = some (.int .i64 a1_2)) (ds := []) #[false, false, false, false, false, false] (by kernel_rfl) rfl rfl ⟨(blk_cell BK203.out 0).trans rfl, (blk_cell BK203.out 1).trans rfl, (blk_cell BK203.out 2).trans rfl, (blk_cell BK204.out 0).trans rfl, (blk_cell BK204.out 1).trans rfl, (blk_cell BK204.out 2).trans rfl⟩ (fun hHeld => ?_)
   generalize w22.drew = w23 at BK203 BK204 HB hHeld ⊢
   refine take_ (i := 0) (N := some 8) (v := ?_) (a' := ?_) #[true, false, false, false, false, false] rfl rfl (by kernel_rfl) (fun _ _ _ h => h) (Or.inl ⟨by rfl, ?_⟩) hHeld ?_ ?_
   rotate_left
   ·rintro w' ⟨s0, s1, s2, s3, s4, s5⟩
    go_simp
    with_reducible rfl
   rotate_left
   ·simp only [Act.put, List.setIfInBounds_toArray, List.set_cons_zero, List.set_cons_succ, i64_w, i32_w]
    rfl
   refine take_ (i := 2) (N := some 10) (v := ?_) (a' := ?_) #[true, false, true, false, false, false] rfl rfl (by kernel_rfl) (fun _ _ _ h => h) (Or.inl ⟨by rfl, ?_⟩) hHeld ?_ ?_
   rotate_left
   ·rintro w' ⟨s0, s1, s2, s3, s4, s5⟩
    go_simp
    with_reducible rfl
   rotate_left
   ·simp only [Act.put, List.setIfInBounds_toArray, List.set_cons_zero, List.set_cons_succ, i64_w, i32_w]
    rfl
   refine one_ (i := 1) (N := some 9) #[true, true, true, false, false, false] rfl rfl (by kernel_rfl) (by decide) (fun K hK => ?_)
   refine goes_ Tryz.func32 (by kernel_rfl) rfl #[.agg #[.bool a0_0, .slice A0_1 l0_1.length c0_1, .int .i64 a0_2]] (by rfl) rfl rfl eqA ?_
   with_reducible refine (cuspref02_Sgn.calls a0_0 _ _ l0_1 a0_2 t205 _ ?side1 ?side2 A3.out).mono ?_
   (case side1 => repeat (first | exact (Kd.C_below HR0_1.out HB.out) | (with_reducible refine Kd.C_alloc ?_ _) | (with_reducible refine Kd.C_drewN ?_ _) | (with_reducible refine Kd.C_drew ?_)))
   (case side2 => exact HC0_1.out)
   rintro e w24 ⟨rfl, hb⟩
   refine ⟨_, rfl, ?_⟩
   have n0_ := asd (blk_below (g := gb203) (o := .cells #[.bool a0_0, .slice A0_1 l0_1.length c0_1, .int .i64 a0_2] 41 (0, 0)) (blkU BK203.out) hb)
   have n1_ := asd (blk_below (g := gb204) (o := .cells #[.bool a1_0, .slice A1_1 l1_1.length c1_1, .int .i64 a1_2] 41 (0, 0)) (blkU BK204.out) hb)
   have n2_ := asd (below_step (by repeat (first | (with_reducible first | exact HB.out | apply below_alloc | apply pw_below_drewN | apply below_drew1 | refine below_set ?_ GE203.out | refine below_set ?_ GE204.out) | exact HB.out)) hb)
   clear BK203
   clear BK204
   clear HB
   have BK203 := n0_
   have BK204 := n1_
   have HB := n2_
   clear n0_ n1_ n2_
   (try clear hb)
   (try clear hb2)
   (try clear hk)
   (try clear hi)
   refine hK.out _ _ ⟨(blk_cell BK203.out 0).trans rfl, (blk_cell BK203.out 1).trans rfl, (blk_cell BK203.out 2).trans rfl, (blk_cell BK204.out 0).trans rfl, (blk_cell BK204.out 1).trans rfl, (blk_cell BK204.out 2).trans rfl⟩ (fun hHeld => ?_)
   clear hK K
   refine norm_ (a' := ?_) ?_ ?_
   rotate_left
   ·show Act.put _ (some 9) _ = _
    simp only [Act.put, List.setIfInBounds_toArray, List.set_cons_zero, List.set_cons_succ, i64_w, i32_w]
    rfl
   refine one_ (i := 3) (N := some 11) #[true, true, true, true, false, false] rfl rfl (by kernel_rfl) (by decide) (fun K hK => ?_)
   refine goes_ Tryz.func32 (by kernel_rfl) rfl #[.agg #[.bool a1_0, .slice A1_1 l1_1.length c1_1, .int .i64 a1_2]] (by rfl) rfl rfl eqA ?_
   with_reducible refine (cuspref02_Sgn.calls a1_0 _ _ l1_1 a1_2 t206 _ ?side1 ?side2 A4.out).mono ?_
   (case side1 => repeat (first | exact (Kd.C_below HR1_1.out HB.out) | (with_reducible refine Kd.C_alloc ?_ _) | (with_reducible refine Kd.C_drewN ?_ _) | (with_reducible refine Kd.C_drew ?_)))
   (case side2 => exact HC1_1.out)
   rintro e w25 ⟨rfl, hb⟩
   refine ⟨_, rfl, ?_⟩
   have n0_ := asd (blk_below (g := gb203) (o := .cells #[.bool a0_0, .slice A0_1 l0_1.length c0_1, .int .i64 a0_2] 41 (0, 0)) (blkU BK203.out) hb)
   have n1_ := asd (blk_below (g := gb204) (o := .cells #[.bool a1_0, .slice A1_1 l1_1.length c1_1, .int .i64 a1_2] 41 (0, 0)) (blkU BK204.out) hb)
   have n2_ := asd (below_step (by repeat (first | (with_reducible first | exact HB.out | apply below_alloc | apply pw_below_drewN | apply below_drew1 | refine below_set ?_ GE203.out | refine below_set ?_ GE204.out) | exact HB.out)) hb)
   clear BK203
   clear BK204
   clear HB
   have BK203 := n0_
   have BK204 := n1_
   have HB := n2_
   clear n0_ n1_ n2_
   (try clear hb)
   (try clear hb2)
   (try clear hk)
   (try clear hi)
   refine hK.out _ _ ⟨(blk_cell BK203.out 0).trans rfl, (blk_cell BK203.out 1).trans rfl, (blk_cell BK203.out 2).trans rfl, (blk_cell BK204.out 0).trans rfl, (blk_cell BK204.out 1).trans rfl, (blk_cell BK204.out 2).trans rfl⟩ (fun hHeld => ?_)
   clear hK K
   refine norm_ (a' := ?_) ?_ ?_
   rotate_left
   ·show Act.put _ (some 11) _ = _
    simp only [Act.put, List.setIfInBounds_toArray, List.set_cons_zero, List.set_cons_succ, i64_w, i32_w]
    rfl
   refine pure_ (i := 4) (N := some 5) (v := ?_) (a' := ?_) #[true, true, true, true, true, false] rfl rfl (by kernel_rfl) (fun _ _ _ h => h) (Or.inl ⟨by rfl, ?_⟩) ?_ ?_
   rotate_left
   ·intro w'
    go_simp
    with_reducible rfl
   rotate_left
   ·simp only [Act.put, List.setIfInBounds_toArray, List.set_cons_zero, List.set_cons_succ, i64_w, i32_w]
    rfl
   refine pure_ (i := 5) (N := some 6) (v := ?_) (a' := ?_) #[true, true, true, true, true, true] rfl rfl (by kernel_rfl) (fun _ _ _ h => h) (Or.inl ⟨by rfl, ?_⟩) ?_ ?_
   rotate_left
   ·intro w'
    go_simp
    with_reducible rfl
   rotate_left
   ·simp only [Act.put, List.setIfInBounds_toArray, List.set_cons_zero, List.set_cons_succ, i64_w, i32_w]
    rfl
   refine done_ (by kernel_rfl) ?_
   try go_wp2
   go_ret
   exact ⟨eqC, by repeat (first | (with_reducible first | exact HB.out | apply below_alloc | apply pw_below_drewN | apply below_drew1 | refine below_set ?_ GE203.out | refine below_set ?_ GE204.out) | exact HB.out)⟩
  ·rw [if_neg c20] at H
   have c20b0 : decide (t205 < t206) = false := decide_eq_false c20
   clear c20
   obtain rfl := Option.some.inj H
   go_enter Tryz.func27, Tryz.ntmps27
   try go_wp2_with (first | ((with_reducible refine gate_dst (N := 2) rfl ?_); refine box_event ?hg (N := 2) ?hd (cs := #[.bool a0_0, .slice A0_1 l0_1.length c0_1, .int .i64 a0_2]) (t := 41) ?hr ?_; (case hd => rfl); (case hg => rfl); (case hr => first | (go_simp; done) | (go_simp; rfl)); intro gb203 hg w26 hbox hb; have n0_ := asd (below_step hbw hb); have n1_ := asd (hbox); have n2_ := asd ((by rw [hg]; exact (below_size hbw) : w.heap.size ≤ gb203)); have n3_ := asd ((by rw [hg]; exact (below_size hbw) : w.heap.size ≤ gb203)); clear HB; have HB := n0_; have BK203 := n1_; have GW203 := n2_; have GE203 := n3_; clear n0_ n1_ n2_ n3_; clear hb hbox hg) | ((with_reducible refine gate_dst (N := 3) rfl ?_); refine box_event ?hg (N := 3) ?hd (cs := #[.bool a1_0, .slice A1_1 l1_1.length c1_1, .int .i64 a1_2]) (t := 41) ?hr ?_; (case hd => rfl); (case hg => rfl); (case hr => first | (go_simp; done) | (go_simp; rfl)); intro gb204 hg w27 hbox hb; have n0_ := asd (blk_below (g := gb203) (o := .cells #[.bool a0_0, .slice A0_1 l0_1.length c0_1, .int .i64 a0_2] 41 (0, 0)) (blkU BK203.out) hb); have n1_ := asd (below_step (by repeat (first | (with_reducible first | exact HB.out | apply below_alloc | apply pw_below_drewN | apply below_drew1 | refine below_set ?_ GE203.out) | exact HB.out)) hb); have n2_ := asd (hbox); have n3_ := asd ((by rw [hg]; exact (below_size (by repeat (first | (with_reducible first | exact HB.out | apply below_alloc | apply pw_below_drewN | apply below_drew1 | refine below_set ?_ GE203.out) | exact HB.out))) : w.heap.size ≤ gb204)); have n4_ := asd ((by rw [hg]; exact (below_size (by repeat (first | (with_reducible first | exact HB.out | apply below_alloc | apply pw_below_drewN | apply below_drew1 | refine below_set ?_ GE203.out) | exact HB.out))) : w.heap.size ≤ gb204)); have n5_ := asd ((by rw [hg]; exact Nat.ne_of_lt (blk_lt (g := gb203) (o := .cells #[.bool a0_0, .slice A0_1 l0_1.length c0_1, .int .i64 a0_2] 41 (0, 0)) (blkU BK203.out)) : gb203 ≠ gb204)); have n6_ := asd ((by rw [hg]; exact Nat.ne_of_gt (blk_lt (g := gb203) (o := .cells #[.bool a0_0, .slice A0_1 l0_1.length c0_1, .int .i64 a0_2] 41 (0, 0)) (blkU BK203.out)) : gb204 ≠ gb203)); clear BK203; clear HB; have BK203 := n0_; have HB := n1_; have BK204 := n2_; have GW204 := n3_; have GE204 := n4_; have NB203_204 := n5_; have NB204_203 := n6_; clear n0_ n1_ n2_ n3_ n4_ n5_ n6_; clear hb hbox hg))
   have n0_ := asd (blk_drew BK203.out)
   have n1_ := asd (blk_drew BK204.out)
   have n2_ := asd (below_drew1 HB.out)
   clear BK203
   clear BK204
   clear HB
   have BK203 := n0_
   have BK204 := n1_
   have HB := n2_
   clear n0_ n1_ n2_
   refine start_ (n := 6) (S := fun w' => w'.cell? ⟨gb203, 0, none⟩ = some (.bool a0_0) ∧ w'.cell? ⟨gb203, 1, none⟩ = some (.slice A0_1 l0_1.length c0_1) ∧ w'.cell? ⟨gb203, 2, none⟩ = some (.int .i64 a0_2) ∧ w'.cell? ⟨gb204, 0, none⟩ = some (.bool a1_0) ∧ w'.cell? ⟨gb204, 1, none⟩ = some (.slice A1_1 l1_1.length c1_1) ∧ w'.cell? ⟨gb204, 2, none⟩ = some (.int .i64 a1_2)) (ds := []) #[false, false, false, false, false, false] (by kernel_rfl) rfl rfl ⟨(blk_cell BK203.out 0).trans rfl, (blk_cell BK203.out 1).trans rfl, (blk_cell BK203.out 2).trans rfl, (blk_cell BK204.out 0).trans rfl, (blk_cell BK204.out 1).trans rfl, (blk_cell BK204.out 2).trans rfl⟩ (fun hHeld => ?_)
   generalize w27.drew = w28 at BK203 BK204 HB hHeld ⊢
   refine take_ (i := 0) (N := some 8) (v := ?_) (a' := ?_) #[true, false, false, false, false, false] rfl rfl (by kernel_rfl) (fun _ _ _ h => h) (Or.inl ⟨by rfl, ?_⟩) hHeld ?_ ?_
   rotate_left
   ·rintro w' ⟨s0, s1, s2, s3, s4, s5⟩
    go_simp
    with_reducible rfl
   rotate_left
   ·simp only [Act.put, List.setIfInBounds_toArray, List.set_cons_zero, List.set_cons_succ, i64_w, i32_w]
    rfl
   refine take_ (i := 2) (N := some 10) (v := ?_) (a' := ?_) #[true, false, true, false, false, false] rfl rfl (by kernel_rfl) (fun _ _ _ h => h) (Or.inl ⟨by rfl, ?_⟩) hHeld ?_ ?_
   rotate_left
   ·rintro w' ⟨s0, s1, s2, s3, s4, s5⟩
    go_simp
    with_reducible rfl
   rotate_left
   ·simp only [Act.put, List.setIfInBounds_toArray, List.set_cons_zero, List.set_cons_succ, i64_w, i32_w]
    rfl
   refine one_ (i := 1) (N := some 9) #[true, true, true, false, false, false] rfl rfl (by kernel_rfl) (by decide) (fun K hK => ?_)
   refine goes_ Tryz.func32 (by kernel_rfl) rfl #[.agg #[.bool a0_0, .slice A0_1 l0_1.length c0_1, .int .i64 a0_2]] (by rfl) rfl rfl eqA ?_
   with_reducible refine (cuspref02_Sgn.calls a0_0 _ _ l0_1 a0_2 t205 _ ?side1 ?side2 A3.out).mono ?_
   (case side1 => repeat (first | exact (Kd.C_below HR0_1.out HB.out) | (with_reducible refine Kd.C_alloc ?_ _) | (with_reducible refine Kd.C_drewN ?_ _) | (with_reducible refine Kd.C_drew ?_)))
   (case side2 => exact HC0_1.out)
   rintro e w29 ⟨rfl, hb⟩
   refine ⟨_, rfl, ?_⟩
   have n0_ := asd (blk_below (g := gb203) (o := .cells #[.bool a0_0, .slice A0_1 l0_1.length c0_1, .int .i64 a0_2] 41 (0, 0)) (blkU BK203.out) hb)
   have n1_ := asd (blk_below (g := gb204) (o := .cells #[.bool a1_0, .slice A1_1 l1_1.length c1_1, .int .i64 a1_2] 41 (0, 0)) (blkU BK204.out) hb)
   have n2_ := asd (below_step (by repeat (first | (with_reducible first | exact HB.out | apply below_alloc | apply pw_below_drewN | apply below_drew1 | refine below_set ?_ GE203.out | refine below_set ?_ GE204.out) | exact HB.out)) hb)
   clear BK203
   clear BK204
   clear HB
   have BK203 := n0_
   have BK204 := n1_
   have HB := n2_
   clear n0_ n1_ n2_
   (try clear hb)
   (try clear hb2)
   (try clear hk)
   (try clear hi)
   refine hK.out _ _ ⟨(blk_cell BK203.out 0).trans rfl, (blk_cell BK203.out 1).trans rfl, (blk_cell BK203.out 2).trans rfl, (blk_cell BK204.out 0).trans rfl, (blk_cell BK204.out 1).trans rfl, (blk_cell BK204.out 2).trans rfl⟩ (fun hHeld => ?_)
   clear hK K
   refine norm_ (a' := ?_) ?_ ?_
   rotate_left
   ·show Act.put _ (some 9) _ = _
    simp only [Act.put, List.setIfInBounds_toArray, List.set_cons_zero, List.set_cons_succ, i64_w, i32_w]
    rfl
   refine one_ (i := 3) (N := some 11) #[true, true, true, true, false, false] rfl rfl (by kernel_rfl) (by decide) (fun K hK => ?_)
   refine goes_ Tryz.func32 (by kernel_rfl) rfl #[.agg #[.bool a1_0, .slice A1_1 l1_1.length c1_1, .int .i64 a1_2]] (by rfl) rfl rfl eqA ?_
   with_reducible refine (cuspref02_Sgn.calls a1_0 _ _ l1_1 a1_2 t206 _ ?side1 ?side2 A4.out).mono ?_
   (case side1 => repeat (first | exact (Kd.C_below HR1_1.out HB.out) | (with_reducible refine Kd.C_alloc ?_ _) | (with_reducible refine Kd.C_drewN ?_ _) | (with_reducible refine Kd.C_drew ?_)))
   (case side2 => exact HC1_1.out)
   rintro e w30 ⟨rfl, hb⟩
   refine ⟨_, rfl, ?_⟩
   have n0_ := asd (blk_below (g := gb203) (o := .cells #[.bool a0_0, .slice A0_1 l0_1.length c0_1, .int .i64 a0_2] 41 (0, 0)) (blkU BK203.out) hb)
   have n1_ := asd (blk_below (g := gb204) (o := .cells #[.bool a1_0, .slice A1_1 l1_1.length c1_1, .int .i64 a1_2] 41 (0, 0)) (blkU BK204.out) hb)
   have n2_ := asd (below_step (by repeat (first | (with_reducible first | exact HB.out | apply below_alloc | apply pw_below_drewN | apply below_drew1 | refine below_set ?_ GE203.out | refine below_set ?_ GE204.out) | exact HB.out)) hb)
   clear BK203
   clear BK204
   clear HB
   have BK203 := n0_
   have BK204 := n1_
   have HB := n2_
   clear n0_ n1_ n2_
   (try clear hb)
   (try clear hb2)
   (try clear hk)
   (try clear hi)
   refine hK.out _ _ ⟨(blk_cell BK203.out 0).trans rfl, (blk_cell BK203.out 1).trans rfl, (blk_cell BK203.out 2).trans rfl, (blk_cell BK204.out 0).trans rfl, (blk_cell BK204.out 1).trans rfl, (blk_cell BK204.out 2).trans rfl⟩ (fun hHeld => ?_)
   clear hK K
   refine norm_ (a' := ?_) ?_ ?_
   rotate_left
   ·show Act.put _ (some 11) _ = _
    simp only [Act.put, List.setIfInBounds_toArray, List.set_cons_zero, List.set_cons_succ, i64_w, i32_w]
    rfl
   refine pure_ (i := 4) (N := some 5) (v := ?_) (a' := ?_) #[true, true, true, true, true, false] rfl rfl (by kernel_rfl) (fun _ _ _ h => h) (Or.inl ⟨by rfl, ?_⟩) ?_ ?_
   rotate_left
   ·intro w'
    go_simp
    with_reducible rfl
   rotate_left
   ·simp only [Act.put, List.setIfInBounds_toArray, List.set_cons_zero, List.set_cons_succ, i64_w, i32_w]
    rfl
   refine pure_ (i := 5) (N := some 6) (v := ?_) (a' := ?_) #[true, true, true, true, true, true] rfl rfl (by kernel_rfl) (fun _ _ _ h => h) (Or.inl ⟨by rfl, ?_⟩) ?_ ?_
   rotate_left
   ·intro w'
    go_simp
    with_reducible rfl
   rotate_left
   ·simp only [Act.put, List.setIfInBounds_toArray, List.set_cons_zero, List.set_cons_succ, i64_w, i32_w]
    rfl
   refine done_ (by kernel_rfl) ?_
   try go_wp2
   go_ret
   exact ⟨eqC, by repeat (first | (with_reducible first | exact HB.out | apply below_alloc | apply pw_below_drewN | apply below_drew1 | refine below_set ?_ GE203.out | refine below_set ?_ GE204.out) | exact HB.out)⟩
end Go.Proofs.YthmeocigliephaaGreatDoor.PSv
end
section
namespace Go.Proofs.YthmeocigliephaaGreatDoor.PSv
open Go.Proofs.YthmeocigliephaaGreatDoor.PSu Go.RowKit Go.Proofs.YthmeocigliephaaGreatDoorW.PrintWords Go.Proofs.YthmeocigliephaaGreatDoorW.PrintLast Go.Proofs.YthmeocigliephaaGreatDoorW.PrintMore
attribute [local go_sem] f64bits_run f64from_run run_float_some max2_int min2_int max_two min_two max_three min_three max_four min_four
def cusplaw05_SumsSplit.j0 : Nat → Nat → Nat → Nat → Nat → Bool → Option (Bool)
 | 0, _, _, _, _, _ => none
 | k + 1, x0, x1, x5, x6, x26 => if x26 = true then ((cusplaw05_same.f x6 (0 : Nat)).bind fun t213 => (if t213 = true then ((cusplaw05_sure.f).bind fun t214 => (some t214)) else (some false))) else ((cuspref01_Finite.f x6).bind fun t215 => (if t215 = true then ((cuspref02_Float.f k x0).bind fun bt216 => ((cuspref02_Float.f k x1).bind fun bt221 => ((cuspref02_Plus.f bt216.1 bt216.2.1 bt216.2.2 bt221.1 bt221.2.1 bt221.2.2).bind fun bt226 => ((cuspref02_Float.f k x5).bind fun bt232 => ((cuspref02_Float.f k x6).bind fun bt237 => ((cuspref02_Plus.f bt232.1 bt232.2.1 bt232.2.2 bt237.1 bt237.2.1 bt237.2.2).bind fun bt242 => ((cuspref02_Order.f k bt226.1 bt226.2.1 bt226.2.2 bt242.1 bt242.2.1 bt242.2.2).bind fun t247 => (if t247 = 0 then ((cusplaw05_sure.f).bind fun t248 => (some t248)) else (some false))))))))) else (some false)))
def cusplaw05_SumsSplit.f (k : Nat) (a0 : Nat) (a1 : Nat) : Option (Bool) := (sums_Two.f k a0 a1).bind fun bt208 => ((cuspref01_Finite.f a0).bind fun t210 => (if t210 = true then ((cuspref01_Finite.f a1).bind fun t211 => (if t211 = true then ((cuspref01_Finite.f bt208.1).bind fun t212 => (cusplaw05_SumsSplit.j0 k a0 a1 bt208.1 bt208.2 (!t212))) else (cusplaw05_SumsSplit.j0 k a0 a1 bt208.1 bt208.2 true))) else (cusplaw05_SumsSplit.j0 k a0 a1 bt208.1 bt208.2 true)))
def cusplaw05_SumsSplit.T7 : Bool × List (List Nat × List Nat) := (true, [([], []), ([], []), ([1], [1]), ([], []), ([3, 2], [3]), ([2, 4, 4], [2, 4]), ([0, 5, 5], [0, 5]), ([6], [6]), ([7, 6], [7]), ([8, 8], [8]), ([8, 9], [8, 9]), ([10, 9, 0, 1, 2, 3, 4, 5, 6, 7, 8, 9, 10], [10])])
def cusplaw05_SumsSplit.B7 : List Nat := [0, 0, 2, 0, 14, 30, 63, 127, 255, 511, 1023, 2047]
theorem cusplaw05_SumsSplit.tab7 : rtab .any (opsOf Tryz.f6 7) = cusplaw05_SumsSplit.T7 := by kernel_rfl
theorem cusplaw05_SumsSplit.bits7 : waitsOk cusplaw05_SumsSplit.T7.2 cusplaw05_SumsSplit.B7 = true := by kernel_rfl
def cusplaw05_twin.f (l0 : List Nat) : Option (List Nat) := if ([] : List Nat).length + l0.length < 17592186044416 then (some (([] : List Nat) ++ l0)) else (none)
end Go.Proofs.YthmeocigliephaaGreatDoor.PSv
end
section
namespace Go.Proofs.YthmeocigliephaaGreatDoor.Big
open Go.Proofs.YthmeocigliephaaGreatDoor.PSv Go.Proofs.YthmeocigliephaaGreatDoor.PSu Go.Proofs.YthmeocigliephaaGreatDoor.Plain Ieee
theorem cmp_self (a : Nat) : cmpN a a = 0 := by unfold cmpN; simp
theorem rmagn_same (neg : Bool) (a : Nat) (e : Int) (h0 : a ≠ 0) (hb : (dig a).length < 1000000) (he : -4000000000 ≤ e) (he1 : e ≤ 4000000000) : Ev (fun k => cuspref02_magnitude.f k neg (dig a) e neg (dig a) e) 0 := by
  have hne := dig_ne h0
  have hl : (dig a).length ≠ 0 := fun h => hne (List.length_eq_zero_iff.1 h)
  have hH := rhigh_law neg a e h0 hb he he1
  have hU := rup_law a 0 (by omega)
  rw [Nat.pow_zero, Nat.mul_one] at hU
  have hO := rorder_law a a (by omega)
  rw [cmp_self] at hO
  have hw : wrap64 (e - mn e e) = ((0 : Nat) : Int) := by
    rw [show mn e e = e by unfold mn; split <;> rfl, Int.sub_self]; exact w64_of (by omega) (by omega)
  unfold cuspref02_magnitude.f
  refine Ev.congr (f := fun k => cuspref02_magnitude.j0 k false neg (dig a) e neg (dig a) e) (fun k => ?_) (Ev.step (f := fun k => (cuspref02_High.f k neg (dig a) e).bind fun t => (cuspref02_High.f k neg (dig a) e).bind fun u => if t = u then ((cuspref02_up.f k (dig a) ((0 : Nat) : Int)).bind fun x => (cuspref02_up.f k (dig a) ((0 : Nat) : Int)).bind fun y => (cuspref02_order.f k x y).bind fun z => some z) else ((cuspref02_High.f k neg (dig a) e).bind fun p => (cuspref02_High.f k neg (dig a) e).bind fun q => some (wrap64 (p - q)))) (fun k => ?_) (Ev.bind hH (Ev.bind hH (Ev.congr (f := fun k => (cuspref02_up.f k (dig a) ((0 : Nat) : Int)).bind fun x => (cuspref02_up.f k (dig a) ((0 : Nat) : Int)).bind fun y => (cuspref02_order.f k x y).bind fun z => some z) (fun k => if_pos rfl) (Ev.bind hU (Ev.bind hU (Ev.bind hO (Ev.now _))))))))
  · rw [if_neg (by omega), show (((dig a).length : Int) == 0) = false from beq_eq_false_iff_ne.2 (by omega)]
  · rw [cuspref02_magnitude.j0, if_neg (by simp), hw]
theorem rorder_same {z : Int} (h1 : bl z.natAbs ≤ 3000) : Ev (fun k => cuspref02_Order.f k (canN z (-1074)).1 (canN z (-1074)).2.1 (canN z (-1074)).2.2 (canN z (-1074)).1 (canN z (-1074)).2.1 (canN z (-1074)).2.2) 0 := by
  by_cases hz : z = 0
  · subst hz
    rw [canN_zero]
    exact Ev.of (fun k => cuspref02_Order.mono _ _ _ _ _ _ k) (k := 3) (by decide +kernel)
  · have hn : z.natAbs ≠ 0 := by omega
    have ho := odd_ne hn
    have hb := bl_can hz (-1074)
    have hle : (dig (odd z.natAbs)).length < 1000000 := by
      have := (isN_can (z := z) (e := -1074) (by omega) (by omega) (by omega)).facts
      have h2 : (canN z (-1074)).2.1 = dig (odd z.natAbs) := by rw [canN_ne hz]; rfl
      rw [h2] at this
      omega
    have htz : tz z.natAbs ≤ 3000 := by
      have h3 := odd_mul hn
      have h4 := bl_mul_pow ho (tz z.natAbs)
      rw [h3] at h4
      omega
    have hm := rmagn_same (decide (z < 0)) (odd z.natAbs) (-1074 + (tz z.natAbs : Int)) ho hle (by omega) (by omega)
    rw [canN_ne hz]
    show Ev (fun k => cuspref02_Order.f k (decide (z < 0)) (dig (odd z.natAbs)) (-1074 + (tz z.natAbs : Int)) (decide (z < 0)) (dig (odd z.natAbs)) (-1074 + (tz z.natAbs : Int))) 0
    have hl : (dig (odd z.natAbs)).length ≠ 0 := fun h => dig_ne ho (List.length_eq_zero_iff.1 h)
    obtain ⟨s, hs⟩ : ∃ s, cuspref02_Sgn.f (decide (z < 0)) (dig (odd z.natAbs)) (-1074 + (tz z.natAbs : Int)) = some s := by
      unfold cuspref02_Sgn.f
      rw [if_neg (by omega)]
      split <;> exact ⟨_, rfl⟩
    have hj : Ev (fun k => cuspref02_Order.j0 k 0) 0 := Ev.step (f := fun _ => some 0) (fun k => by rw [cuspref02_Order.j0, if_neg (by omega), if_neg (by omega)]) (Ev.now _)
    refine Ev.congr (f := fun k => (cuspref02_magnitude.f k (decide (z < 0)) (dig (odd z.natAbs)) (-1074 + (tz z.natAbs : Int)) (decide (z < 0)) (dig (odd z.natAbs)) (-1074 + (tz z.natAbs : Int))).bind fun t => if s < 0 then cuspref02_Order.j0 k (wrap64 (-t)) else cuspref02_Order.j0 k t) (fun k => ?_) (Ev.bind hm (Ev.congr (f := fun k => cuspref02_Order.j0 k 0) (fun k => ?_) hj))
    · unfold cuspref02_Order.f
      rw [hs, Option.bind_some, Option.bind_some, if_pos rfl]
    · rw [show wrap64 (-0) = 0 from w64_of (by omega) (by omega)]; split <;> rfl
def splitK (k a b r L : Nat) : Option Bool := (cuspref01_Finite.f a).bind fun t210 => (if t210 = true then ((cuspref01_Finite.f b).bind fun t211 => (if t211 = true then ((cuspref01_Finite.f r).bind fun t212 => (cusplaw05_SumsSplit.j0 k a b r L (!t212))) else (cusplaw05_SumsSplit.j0 k a b r L true))) else (cusplaw05_SumsSplit.j0 k a b r L true))
theorem split_rest {a b : Nat} (ha : a < 18446744073709551616) (hb : b < 18446744073709551616) : ∃ k, ∀ r, relN r (sumT a b) → r < 18446744073709551616 → splitK k a b r (lostT a b) = some true := by
  by_cases hf : Fin64 (sumT a b)
  · obtain ⟨fa, fb, _⟩ := sumT_fin ha hb hf
    obtain ⟨fl, he⟩ := lost_exact ha hb hf
    have b1 : bl (flz a).natAbs ≤ 2098 := bl_le.2 (flz_lt fa)
    have b2 : bl (flz b).natAbs ≤ 2098 := bl_le.2 (flz_lt fb)
    have b3 : bl (flz (sumT a b)).natAbs ≤ 2098 := bl_le.2 (flz_lt hf)
    have b4 : bl (flz (lostT a b)).natAbs ≤ 2098 := bl_le.2 (flz_lt fl)
    have b5 := sum_bl fa fb
    have hs : flz (sumT a b) + flz (lostT a b) = flz a + flz b := by omega
    have key : Ev (fun k => cusplaw05_SumsSplit.j0 k a b (sumT a b) (lostT a b) false) true := by
      refine Ev.step (f := fun k => (cuspref02_Float.f k a).bind fun x => (cuspref02_Float.f k b).bind fun y => (cuspref02_Plus.f x.1 x.2.1 x.2.2 y.1 y.2.1 y.2.2).bind fun z => (cuspref02_Float.f k (sumT a b)).bind fun u => (cuspref02_Float.f k (lostT a b)).bind fun v => (cuspref02_Plus.f u.1 u.2.1 u.2.2 v.1 v.2.1 v.2.2).bind fun q => (cuspref02_Order.f k z.1 z.2.1 z.2.2 q.1 q.2.1 q.2.2).bind fun t => if t = 0 then ((cusplaw05_sure.f).bind fun t => some t) else some false) (fun k => ?_) ?_
      · rw [cusplaw05_SumsSplit.j0, if_neg (by simp), rfinite_law (lostT_lt a b), Option.bind_some, decide_eq_true fl, if_pos rfl]
      · refine Ev.bind (rfloat_law fa) (Ev.bind (rfloat_law fb) ?_)
        refine Ev.congr (f := fun k => (cuspref02_Float.f k (sumT a b)).bind fun u => (cuspref02_Float.f k (lostT a b)).bind fun v => (cuspref02_Plus.f u.1 u.2.1 u.2.2 v.1 v.2.1 v.2.2).bind fun q => (cuspref02_Order.f k (canN (flz a + flz b) (-1074)).1 (canN (flz a + flz b) (-1074)).2.1 (canN (flz a + flz b) (-1074)).2.2 q.1 q.2.1 q.2.2).bind fun t => if t = 0 then ((cusplaw05_sure.f).bind fun t => some t) else some false) (fun k => ?_) (Ev.bind (rfloat_law hf) (Ev.bind (rfloat_law fl) ?_))
        · rw [rplus_can (by omega) (by omega), Option.bind_some]
        · refine Ev.congr (f := fun k => (cuspref02_Order.f k (canN (flz a + flz b) (-1074)).1 (canN (flz a + flz b) (-1074)).2.1 (canN (flz a + flz b) (-1074)).2.2 (canN (flz a + flz b) (-1074)).1 (canN (flz a + flz b) (-1074)).2.1 (canN (flz a + flz b) (-1074)).2.2).bind fun t => if t = 0 then ((cusplaw05_sure.f).bind fun t => some t) else some false) (fun k => ?_) (Ev.bind (rorder_same (by omega)) (Ev.congr (f := fun _ => some true) (fun k => ?_) (Ev.now _)))
          · rw [rplus_can (by omega) (by omega), Option.bind_some, hs]
          · rw [if_pos rfl]; rfl
    obtain ⟨k, hk⟩ := Ev.rounds key
    refine ⟨k, fun r h hr => ?_⟩
    obtain rfl := relN_eq h (kind_fin hf).1
    unfold splitK
    rw [rfinite_law ha, Option.bind_some, decide_eq_true fa, if_pos rfl, rfinite_law hb, Option.bind_some, decide_eq_true fb, if_pos rfl, rfinite_law hr, Option.bind_some, decide_eq_true hf]
    exact hk
  · refine ⟨1, fun r h hr => ?_⟩
    have hL : lostT a b = 0 := by unfold lostT; rw [if_neg hf]
    have hr2 : ¬ Fin64 r := by
      intro h2
      rcases h with rfl | ⟨h3, _⟩
      · exact hf h2
      · rw [(kind_fin h2).1] at h3; cases h3
    have hj : cusplaw05_SumsSplit.j0 1 a b r 0 true = some true := by
      rw [cusplaw05_SumsSplit.j0, if_pos rfl, same_law, Option.bind_some, if_pos rfl]; rfl
    unfold splitK
    rw [hL, rfinite_law ha, Option.bind_some]
    split
    · rw [rfinite_law hb, Option.bind_some]
      split
      · rw [rfinite_law hr, Option.bind_some, decide_eq_false hr2]; exact hj
      · exact hj
    · exact hj
end Go.Proofs.YthmeocigliephaaGreatDoor.Big
end
section
namespace Go.Proofs.YthmeocigliephaaGreatDoor.Big
open Go.Proofs.YthmeocigliephaaGreatDoor.PSu Go.Proofs.YthmeocigliephaaGreatDoor.Plain Ieee
def halvesT : Nat → List Nat → Nat
  | 0, _ => 0
  | n + 1, l => if l.length = 0 then 0 else if l.length = 1 then rdOf (0 : Nat) l 0 else sumT (halvesT n (l.take (l.length / 2))) (halvesT n (l.drop (l.length / 2)))
theorem halvesT_lt : ∀ (n : Nat) (l : List Nat), (∀ b ∈ l, b < 18446744073709551616) → halvesT n l < 18446744073709551616
  | 0, _, _ => by unfold halvesT; omega
  | n + 1, l, h => by
    unfold halvesT
    split
    · omega
    · split
      · exact rd_lt h 0
      · exact sumT_lt (halvesT_lt n _ fun b hb => h b (List.mem_of_mem_take hb)) (halvesT_lt n _ fun b hb => h b (List.mem_of_mem_drop hb))
def halves_T : Bool × List (List Nat × List Nat) := (true, [([], []), ([], []), ([1], [1]), ([0, 2], [0, 2]), ([3], [3]), ([], []), ([], []), ([6], [6]), ([5, 7], [5, 7]), ([8, 4], [8]), ([4, 9, 9], [4, 9]), ([10, 10, 0, 1, 2, 3, 4, 5, 6, 7, 8, 9, 10], [10])])
def halves_B : List Nat := [0, 0, 2, 7, 15, 0, 0, 64, 224, 511, 1023, 2047]
theorem halves_tab : rtab .any (opsOf Tryz.f14 3) = halves_T := by kernel_rfl
theorem halves_bits : waitsOk halves_T.2 halves_B = true := by kernel_rfl
theorem halves_rel (n : Nat) : ∀ (A0 : Option Addr) (c0 : Nat) (l0 : List Nat) (w : World), l0.length ≤ n ∧ l0.length < 4611686018427387904 → Kd.C Kd.float w A0 l0.length l0 → l0.length ≤ c0 → (∀ b ∈ l0, b < 18446744073709551616) → Laid w →
    Calls Tryz.prog 14 #[.slice A0 l0.length c0] w (RetRel (halvesT n l0) w) := by
  induction n with
  | zero =>
    intro A0 c0 l0 w hn hr hc hw hL
    have HB := asd (Below.refl w.heap.size w)
    obtain rfl : l0 = [] := List.length_eq_zero_iff.1 (by omega)
    clear hn hr hc hw hL
    go_enter Tryz.func14, Tryz.ntmps14
    go_wp2
    go_ret
    exact ⟨0, .inl rfl, by omega, rfl, HB.out⟩
  | succ n ih =>
  intro A0 c0 l0 w hn hr hc hw hL
  have IH := asd ih
  have HL := asd hL
  have HB := asd (Below.refl w.heap.size w)
  clear ih
  obtain ⟨T, hT⟩ : ∃ T, halvesT (n + 1) l0 = T := ⟨_, rfl⟩
  rw [hT]
  unfold halvesT at hT
  by_cases c2 : (l0.length : Int) = 0
  · have c2b0 : ((l0.length : Int) == 0) = true := beq_iff_eq.mpr c2
    rw [if_pos (by omega)] at hT
    subst hT
    clear c2 hn hr hc hw hL
    go_enter Tryz.func14, Tryz.ntmps14
    go_wp2
    go_ret
    exact ⟨0, .inl rfl, by omega, rfl, HB.out⟩
  have c2b0 : ((l0.length : Int) == 0) = false := beq_eq_false_iff_ne.mpr c2
  have c2b1 : ((l0.length : Int) != 0) = true := bne_iff_ne.mpr c2
  have c2b2 : ¬ (l0 = []) := fun h_ => c2 (by rw [h_]; rfl)
  rw [if_neg (by omega)] at hT
  by_cases c3 : (l0.length : Int) = 1
  · have c3b0 : ((l0.length : Int) == 1) = true := beq_iff_eq.mpr c3
    have c3b1 : ((l0.length : Int) != 1) = false := bne_eq_false_iff_eq.mpr c3
    rw [if_pos (by omega)] at hT
    have HX := asd (rd_lt hw 0)
    have p172 : 0 ≤ (0 : Int) := (by omega)
    have q172 : 0 < (l0.length : Int) := by omega
    obtain ⟨ad172, e172, hx172_0⟩ := Kd.at_float hr 0 p172 q172
    cases e172
    rw [hT] at hx172_0 HX
    have qi172 : (0 < l0.length) = True := eq_true (by omega)
    rw [show ((0 : Int)).toNat = 0 from rfl, Addr.add_zero'] at hx172_0
    replace p172 := eq_true p172
    replace q172 := eq_true q172
    clear c3 hT hn hr hc hw hL c2
    go_enter Tryz.func14, Tryz.ntmps14
    go_wp2
    go_ret
    exact ⟨T, .inl rfl, HX.out, rfl, HB.out⟩
  · have c3b0 : ((l0.length : Int) == 1) = false := beq_eq_false_iff_ne.mpr c3
    have c3b1 : ((l0.length : Int) != 1) = true := bne_iff_ne.mpr c3
    rw [if_neg (by omega)] at hT
    obtain ⟨ji5, hji5⟩ : ∃ j_ : Int, (wrap64 ((l0.length : Int) / 2)) = j_ := ⟨_, rfl⟩
    have hji5w : (IntKind.i64.wrap ((l0.length : Int) / 2)) = ji5 := (i64_w _).trans hji5
    have hj : ji5 = (l0.length : Int) / 2 := by rw [← hji5]; exact w64_of (by omega) (by omega)
    have hj2 : (ji5 : Int).toNat = l0.length / 2 := by omega
    rw [← hj2] at hT
    have c6b1 : decide (0 ≤ (ji5)) = true := decide_eq_true (by omega)
    have c7b1 : decide ((ji5) ≤ (l0.length : Int)) = true := decide_eq_true (by omega)
    have J1 := asd (show (l0.take ((ji5) : Int).toNat).length ≤ n ∧ (l0.take ((ji5) : Int).toNat).length < 4611686018427387904 by rw [List.length_take]; omega)
    have J2 := asd (show ∀ b ∈ l0.take ((ji5) : Int).toNat, b < 18446744073709551616 from fun b hb => hw b (List.mem_of_mem_take hb))
    have J3 := asd (show (l0.drop ((ji5) : Int).toNat).length ≤ n ∧ (l0.drop ((ji5) : Int).toNat).length < 4611686018427387904 by rw [List.length_drop]; omega)
    have J4 := asd (show ∀ b ∈ l0.drop ((ji5) : Int).toNat, b < 18446744073709551616 from fun b hb => hw b (List.mem_of_mem_drop hb))
    have HT := asd hT
    have HR0 := asd hr
    have HC0 := asd hc
    have HJ0 := asd (show 0 ≤ ji5 ∧ ji5 ≤ (l0.length : Int) by omega)
    have c6b0 := eq_true HJ0.out.1
    have c7b0 := eq_true HJ0.out.2
    clear hj hj2 hT hn hr hc hw hL
    go_enter Tryz.func14, Tryz.ntmps14
    try go_wp2
    have n0_ := asd (below_drew1 HB.out)
    clear HB
    have HB := n0_
    clear n0_
    obtain ⟨i014, hi014, _, hsz14, _⟩ := info_parts info25
    obtain ⟨hcut14, hA14, hC14⟩ := print_take_of (P := Tryz.prog) (Value.float .f64) (0 : Nat) 22 25 .i64 Tryz.underlying22 hi014 hsz14 A0 c0 l0 (ji5) (of_decide_eq_true (by first | (with_reducible assumption) | assumption)) (of_decide_eq_true (by first | (with_reducible assumption) | assumption)) HC0.out
    have HR173 := asd (Kd.C_of_reads (h1 := fun _ => rfl) (hA14 _ (Kd.reads_of_C HR0.out)))
    have HC173 := asd hC14
    clear hA14 hC14 hi014 hsz14
    obtain ⟨i015, hi015, _, hsz15, _⟩ := info_parts info25
    obtain ⟨A15, hcut15, hA15, hC15⟩ := print_drop_of (P := Tryz.prog) (Value.float .f64) (0 : Nat) 22 25 .i64 Tryz.underlying22 hi015 hsz15 A0 c0 l0 (ji5) (of_decide_eq_true (by first | (with_reducible assumption) | assumption)) (of_decide_eq_true (by first | (with_reducible assumption) | assumption)) HC0.out
    have HR175 := asd (Kd.C_of_reads (h1 := fun _ => rfl) (hA15 _ (Kd.reads_of_C HR0.out)))
    have HC175 := asd hC15
    clear hA15 hC15 hi015 hsz15
    refine start_ (n := 12) (S := fun w' => True) (ds := []) #[false, false, false, false, false, false, false, false, false, false, false, false] (by kernel_rfl) rfl rfl trivial (fun hHeld => ?_); refine with_tabW halves_tab halves_bits (fun HT_ HW_ => ?_)
    generalize w.drew = w13 at HB HR173 HR175 hHeld ⊢
    refine pure_ (i := 0) (N := some 7) (v := ?_) (a' := ?_) #[true, false, false, false, false, false, false, false, false, false, false, false] rfl rfl (any_of HT_.out (by kernel_rfl)) (fun _ _ _ h => h) (Or.inl ⟨by rfl, ?_⟩) ?_ ?_
    rotate_left
    · intro w'
      go_simp
      with_reducible rfl
    rotate_left
    · simp only [Act.put, List.setIfInBounds_toArray, List.set_cons_zero, List.set_cons_succ, i64_w, i32_w]
      rfl
    refine pure_ (i := 1) (N := some 8) (v := ?_) (a' := ?_) #[true, true, false, false, false, false, false, false, false, false, false, false] rfl rfl (any_of HT_.out (by kernel_rfl)) (fun _ _ _ h => h) (Or.inl ⟨by rfl, ?_⟩) ?_ ?_
    rotate_left
    · intro w'
      go_simp
      with_reducible rfl
    rotate_left
    · simp only [Act.put, List.setIfInBounds_toArray, List.set_cons_zero, List.set_cons_succ, i64_w, i32_w]
      rfl
    refine pure_ (i := 2) (N := some 9) (v := ?_) (a' := ?_) #[true, true, true, false, false, false, false, false, false, false, false, false] rfl rfl (any_of HT_.out (by kernel_rfl)) (fun _ _ _ h => h) (Or.inl ⟨by rfl, ?_⟩) ?_ ?_
    rotate_left
    · intro w'
      go_simp
      with_reducible rfl
    rotate_left
    · simp only [Act.put, List.setIfInBounds_toArray, List.set_cons_zero, List.set_cons_succ, i64_w, i32_w]
      rfl
    refine pure_ (i := 3) (N := some 10) (v := ?_) (a' := ?_) #[true, true, true, true, false, false, false, false, false, false, false, false] rfl rfl (any_of HT_.out (by kernel_rfl)) (fun _ _ _ h => h) (Or.inl ⟨by rfl, ?_⟩) ?_ ?_
    rotate_left
    · intro w'
      go_simp
      with_reducible rfl
    rotate_left
    · simp only [Act.put, List.setIfInBounds_toArray, List.set_cons_zero, List.set_cons_succ, i64_w, i32_w]
      rfl
    refine pure_ (i := 5) (N := some 12) (v := ?_) (a' := ?_) #[true, true, true, true, false, true, false, false, false, false, false, false] rfl rfl (any_of HT_.out (by kernel_rfl)) (fun _ _ _ h => h) (Or.inl ⟨by rfl, ?_⟩) ?_ ?_
    rotate_left
    · intro w'
      go_simp
      with_reducible rfl
    rotate_left
    · simp only [Act.put, List.setIfInBounds_toArray, List.set_cons_zero, List.set_cons_succ, i64_w, i32_w]
      rfl
    refine pure_ (i := 6) (N := some 13) (v := ?_) (a' := ?_) #[true, true, true, true, false, true, true, false, false, false, false, false] rfl rfl (any_of HT_.out (by kernel_rfl)) (fun _ _ _ h => h) (Or.inl ⟨by rfl, ?_⟩) ?_ ?_
    rotate_left
    · intro w'
      go_simp
      with_reducible rfl
    rotate_left
    · simp only [Act.put, List.setIfInBounds_toArray, List.set_cons_zero, List.set_cons_succ, i64_w, i32_w]
      rfl
    refine pure_ (i := 7) (N := some 14) (v := ?_) (a' := ?_) #[true, true, true, true, false, true, true, true, false, false, false, false] rfl rfl (any_of HT_.out (by kernel_rfl)) (fun _ _ _ h => h) (Or.inl ⟨by rfl, ?_⟩) ?_ ?_
    rotate_left
    · intro w'
      go_simp
      with_reducible rfl
    rotate_left
    · simp only [Act.put, List.setIfInBounds_toArray, List.set_cons_zero, List.set_cons_succ, i64_w, i32_w]
      rfl
    refine pure_ (i := 8) (N := some 15) (v := ?_) (a' := ?_) #[true, true, true, true, false, true, true, true, true, false, false, false] rfl rfl (any_of HT_.out (by kernel_rfl)) (fun _ _ _ h => h) (Or.inl ⟨by rfl, ?_⟩) ?_ ?_
    rotate_left
    · intro w'
      go_simp
      with_reducible rfl
    rotate_left
    · simp only [Act.put, List.setIfInBounds_toArray, List.set_cons_zero, List.set_cons_succ, i64_w, i32_w]
      rfl
    refine one_ (i := 4) (N := some 11) #[true, true, true, true, true, true, true, true, true, false, false, false] rfl rfl (one_of HT_.out (by kernel_rfl)) (by decide) (fun K hK => ?_)
    refine goes_ Tryz.func14 (by kernel_rfl) rfl #[.slice A0 (l0.take ((ji5) : Int).toNat).length c0] (by rfl) rfl rfl (by (try simp only [List.map_toArray, List.map_cons, List.map_nil]); first | done | (rw [show (l0.take ((ji5) : Int).toNat).length = (ji5).toNat from (by rw [List.length_take]; have h_ : ((ji5) : Int) ≤ (l0.length : Int) := of_decide_eq_true (by first | (with_reducible assumption) | assumption); omega)] <;> rfl) | (simp only [hji5]; rfl) | rfl | (simp only [List.length_drop, List.length_take]; rfl)) ?_
    refine (IH.out A0 c0 (l0.take ((ji5) : Int).toNat) _ J1.out (Kd.C_below HR173.out HB.out) HC173.out J2.out (HL.out.step HB.out)).mono ?_
    rintro e w16 ⟨t174, n1, n2, rfl, hb⟩
    have N1 := asd (And.intro n1 n2)
    clear n1 n2
    refine ⟨_, rfl, ?_⟩
    have n0_ := asd (below_step hbw hb)
    clear HB
    have HB := n0_
    clear n0_
    (try clear hb)
    (try clear hb2)
    (try clear hk)
    (try clear hi)
    refine hK.out _ _ trivial (fun hHeld => ?_)
    clear hK K
    refine norm_ (a' := ?_) ?_ ?_
    rotate_left
    · show Act.put _ (some 11) _ = _
      simp only [Act.put, List.setIfInBounds_toArray, List.set_cons_zero, List.set_cons_succ, i64_w, i32_w]
      rfl
    refine one_ (i := 9) (N := some 16) #[true, true, true, true, true, true, true, true, true, true, false, false] rfl rfl (one_of HT_.out (by kernel_rfl)) (by decide) (fun K hK => ?_)
    refine goes_ Tryz.func14 (by kernel_rfl) rfl #[.slice A15 (l0.drop ((ji5) : Int).toNat).length (c0 - (ji5).toNat)] (by rfl) rfl rfl (by (try simp only [List.map_toArray, List.map_cons, List.map_nil]); first | done | (rw [show (l0.drop ((ji5) : Int).toNat).length = (l0.length - (ji5).toNat) from List.length_drop] <;> rfl) | (simp only [hji5]; rfl) | rfl | (simp only [List.length_drop, List.length_take]; rfl)) ?_
    refine (IH.out A15 (c0 - (ji5).toNat) (l0.drop ((ji5) : Int).toNat) _ J3.out (Kd.C_below HR175.out HB.out) HC175.out J4.out (HL.out.step HB.out)).mono ?_
    rintro e w17 ⟨t176, n1, n2, rfl, hb⟩
    have N2 := asd (And.intro n1 n2)
    clear n1 n2
    refine ⟨_, rfl, ?_⟩
    have n0_ := asd (below_step hbw hb)
    clear HB
    have HB := n0_
    clear n0_
    (try clear hb)
    (try clear hb2)
    (try clear hk)
    (try clear hi)
    refine hK.out _ _ trivial (fun hHeld => ?_)
    clear hK K
    refine norm_ (a' := ?_) ?_ ?_
    rotate_left
    · show Act.put _ (some 16) _ = _
      simp only [Act.put, List.setIfInBounds_toArray, List.set_cons_zero, List.set_cons_succ, i64_w, i32_w]
      rfl
    refine one_ (i := 10) (N := some 17) #[true, true, true, true, true, true, true, true, true, true, true, false] rfl rfl (one_of HT_.out (by kernel_rfl)) (by decide) (fun K hK => ?_)
    refine goes_ Tryz.func39 (by kernel_rfl) rfl #[.float .f64 t174, .float .f64 t176] (by rfl) rfl rfl eqA ?_
    refine (near_rel t174 t176 _ N1.out.2 N2.out.2 (HL.out.step HB.out)).mono ?_
    rintro e w18 ⟨t177, n1, n2, rfl, hb⟩
    have N3 := asd (And.intro n1 n2)
    clear n1 n2
    refine ⟨_, rfl, ?_⟩
    have n0_ := asd (below_step hbw hb)
    clear HB
    have HB := n0_
    clear n0_
    (try clear hb)
    (try clear hb2)
    (try clear hk)
    (try clear hi)
    refine hK.out _ _ trivial (fun hHeld => ?_)
    clear hK K
    refine norm_ (a' := ?_) ?_ ?_
    rotate_left
    · show Act.put _ (some 17) _ = _
      simp only [Act.put, List.setIfInBounds_toArray, List.set_cons_zero, List.set_cons_succ, i64_w, i32_w]
      rfl
    refine pure_ (i := 11) (N := some 2) (v := ?_) (a' := ?_) #[true, true, true, true, true, true, true, true, true, true, true, true] rfl rfl (any_of HT_.out (by kernel_rfl)) (fun _ _ _ h => h) (Or.inl ⟨by rfl, ?_⟩) ?_ ?_
    rotate_left
    · intro w'
      go_simp
      with_reducible rfl
    rotate_left
    · simp only [Act.put, List.setIfInBounds_toArray, List.set_cons_zero, List.set_cons_succ, i64_w, i32_w]
      rfl
    refine done_ (done_of HT_.out (by kernel_rfl)) ?_
    try go_wp2
    go_ret
    refine ⟨t177, ?_, N3.out.2, rfl, HB.out⟩
    have := relN_sum N1.out.2 N2.out.2 (halvesT_lt n _ J2.out) (halvesT_lt n _ J4.out) N1.out.1 N2.out.1
    exact HT.out ▸ relN_trans N3.out.1 this
end Go.Proofs.YthmeocigliephaaGreatDoor.Big
end
section
namespace Go.Proofs.YthmeocigliephaaGreatDoor.Big
open Go.Proofs.YthmeocigliephaaGreatDoor.PSu Go.Proofs.YthmeocigliephaaGreatDoor.Plain
def sureM : List Nat := [4607182418800017408, 6103021453049119613, 4607182418800017408, 15326393489903895421]
theorem sureM_row : rowT sureM = 0 := by decide +kernel
theorem sureM_kept : keptT sureM 0 0 = 4611686018427387904 := by decide +kernel
theorem sureM_halves : halvesT 4 sureM = 0 := by decide +kernel
theorem sureM_sum : sumT 4846369599423283200 4607182418800017408 = 4846369599423283200 := by decide +kernel
theorem sureM_lost : lostT 4846369599423283200 4607182418800017408 = 4607182418800017408 := by decide +kernel
theorem sureM_exact : exactW sureM 2 (canN (sumZ sureM) (-1074)) = (4611686018427387904, 0) := by decide +kernel
theorem sureM_arg : exactW sureM 0 (canN (sumZ sureM) (-1074)) = (0, 1) := by decide +kernel
theorem sureM_fin : ∀ b ∈ sureM, b < 18446744073709551616 := by decide +kernel
theorem sureM_lit (w : World) : Kd.C Kd.float (w.alloc (.cells #[.float .f64 4607182418800017408, .float .f64 6103021453049119613, .float .f64 4607182418800017408, .float .f64 15326393489903895421] 25 (0, 0))) (some ⟨w.heap.size, 0, none⟩) sureM.length sureM := by
  refine Kd.C_of_reads (d := (0 : Nat)) ⟨rfl, by decide, fun _ => ⟨_, rfl, fun j hj => ?_⟩⟩
  have hb := blk_new w (.cells #[.float .f64 4607182418800017408, .float .f64 6103021453049119613, .float .f64 4607182418800017408, .float .f64 15326393489903895421] 25 (0, 0))
  have h4 : j < 4 := hj
  have hc := blk_cell hb
  have : j = 0 ∨ j = 1 ∨ j = 2 ∨ j = 3 := by omega
  rcases this with rfl | rfl | rfl | rfl
  · exact hc 0
  · exact hc 1
  · exact hc 2
  · exact hc 3
theorem sure_rel (w : World) (hL : Laid w) : Calls Tryz.prog 19 #[] w fun e w' => e = .returned (.bool true) ∧ Below w.heap.size w w' := by
  have HL := asd hL
  have B1 := asd ((Below.refl w.heap.size w).alloc (Nat.le_refl _) (.cells #[.float .f64 4607182418800017408, .float .f64 6103021453049119613, .float .f64 4607182418800017408, .float .f64 15326393489903895421] 25 (0, 0)))
  have C1 := asd (sureM_lit w)
  have E1 := asd sureM_exact
  have E2 := asd sureM_arg
  have V1 : (FloatKind.f64.format.order 0 0 == some .eq) = true := by decide +kernel
  have V2 : (FloatKind.f64.format.order 4611686018427387904 4611686018427387904 == some .eq) = true := by decide +kernel
  have V3 : (FloatKind.f64.format.order 4846369599423283200 4846369599423283200 == some .eq) = true := by decide +kernel
  have V4 : (FloatKind.f64.format.order 4607182418800017408 4607182418800017408 == some .eq) = true := by decide +kernel
  have N0 := asd (show nanB (rowT sureM) = false by rw [sureM_row]; decide +kernel)
  have N1 := asd (show nanB (keptT sureM 0 0) = false by rw [sureM_kept]; decide +kernel)
  have N2 := asd (show nanB (halvesT 4 sureM) = false by rw [sureM_halves]; decide +kernel)
  have N3 := asd (show nanB (sumT 4846369599423283200 4607182418800017408) = false by rw [sureM_sum]; decide +kernel)
  have tok1 : True := trivial
  clear hL
  go_enter Tryz.func19, Tryz.ntmps19
  go_wp2_with (first
    | (go_at_call 22; have _t := tok1; refine (exact_list (some ⟨w.heap.size, 0, none⟩) 4 sureM 2 _ C1.out (by decide) (by decide) sureM_fin (HL.out.step B1.out)).mono ?_; rw [E1.out]; rintro e w2 ⟨rfl, d⟩; have B2 := asd (below_post d B1.out); have C2 := asd (Kd.C_below C1.out d); clear d _t tok1)
    | (go_at_call 22; refine (exact_list (some ⟨w.heap.size, 0, none⟩) 4 sureM 0 _ C2.out (by decide) (by decide) sureM_fin (HL.out.step B2.out)).mono ?_; rw [E2.out]; rintro e w3 ⟨rfl, d⟩; have B3 := asd (below_post d B2.out); have C3 := asd (Kd.C_below C2.out d); clear d)
    | (go_at_call 20; refine (two_rel _ _ _ (by decide) (by decide) (HL.out.step B3.out)).mono ?_; rw [sureM_lost]; rintro e w4 ⟨r, h1, _, rfl, d⟩; obtain rfl := (relN_eq h1 N3.out).trans sureM_sum; have B4 := asd (below_post d B3.out); have C4 := asd (Kd.C_below C3.out d); clear d h1)
    | (go_at_call 12; refine (row_rel (some ⟨w.heap.size, 0, none⟩) 4 sureM _ C4.out (by decide) (by decide) sureM_fin (HL.out.step B4.out)).mono ?_; rintro e w5 ⟨r, h1, _, rfl, d⟩; obtain rfl := (relN_eq h1 N0.out).trans sureM_row; have B5 := asd (below_post d B4.out); have C5 := asd (Kd.C_below C4.out d); clear d h1)
    | (go_at_call 16; refine (kept_rel (some ⟨w.heap.size, 0, none⟩) 4 sureM _ C5.out (by decide) (by decide) sureM_fin (HL.out.step B5.out)).mono ?_; rintro e w6 ⟨r, h1, _, rfl, d⟩; obtain rfl := (relN_eq h1 N1.out).trans sureM_kept; have B6 := asd (below_post d B5.out); have C6 := asd (Kd.C_below C5.out d); clear d h1)
    | (go_at_call 14; refine (halves_rel 4 (some ⟨w.heap.size, 0, none⟩) 4 sureM _ ⟨by decide, by decide⟩ C6.out (by decide) sureM_fin (HL.out.step B6.out)).mono ?_; rintro e w7 ⟨r, h1, _, rfl, d⟩; obtain rfl := (relN_eq h1 N2.out).trans sureM_halves; have B7 := asd (below_post d B6.out); clear d h1))
  go_ret
  exact ⟨rfl, B7.out⟩
end Go.Proofs.YthmeocigliephaaGreatDoor.Big
end
section
namespace Go.Proofs.YthmeocigliephaaGreatDoor.Big
open Go.Proofs.YthmeocigliephaaGreatDoor.PSv Go.Proofs.YthmeocigliephaaGreatDoor.PSu Go.Proofs.YthmeocigliephaaGreatDoor.Plain Ieee
attribute [local go_sem] neg_float f64bits_run f64from_run run_float_some max2_int min2_int max_two min_two max_three min_three max_four min_four
theorem sure_calls (r : Bool) (w : World) (h : cusplaw05_sure.f = some r) (hL : Laid w := by exact Laid.step HL.out hbw) :
    Calls Tryz.prog 19 #[] w fun e w' => e = .returned (.bool r) ∧ Below w.heap.size w w' := by
  obtain rfl := Option.some.inj h
  exact sure_rel w hL
theorem split_go (a0 a1 : Nat) (ha : a0 < 18446744073709551616) (hb : a1 < 18446744073709551616) (w : World) (hL : Laid w) (k t209 : Nat) (r : Bool) (hLL : lostT a0 a1 = t209)
    (hk : ∀ t208, relN t208 (sumT a0 a1) → t208 < 18446744073709551616 → ((cuspref01_Finite.f a0).bind fun t210 => (if t210 = true then ((cuspref01_Finite.f a1).bind fun t211 => (if t211 = true then ((cuspref01_Finite.f t208).bind fun t212 => (cusplaw05_SumsSplit.j0 k a0 a1 t208 t209 (!t212))) else (cusplaw05_SumsSplit.j0 k a0 a1 t208 t209 true))) else (cusplaw05_SumsSplit.j0 k a0 a1 t208 t209 true))) = some r) :
    Calls Tryz.prog 6 #[.float .f64 a0, .float .f64 a1] w fun e w' => e = .returned (.bool r) ∧ Below w.heap.size w w' := by
  have HL := asd hL
  have HLL := asd hLL
  have HC4 := asd hk
  have HA := asd ha
  have HA1 := asd hb
  clear hL hk hLL ha hb
  have hu41 := Tryz.underlying41
  have HB := asd (Below.refl w.heap.size w)
  go_enter Tryz.func6, Tryz.ntmps6
  go_upto_region 2 with (first | ((with_reducible refine gate_callee (f := 20) rfl ?_); refine goesL_ (some 11) rfl rfl Tryz.func20 (by kernel_rfl) rfl #[.float .f64 a0, .float .f64 a1] rfl eqA ?_; refine (two_rel a0 a1 _ HA.out HA1.out HL.out).mono ?_; rw [HLL.out]; rintro e w5 ⟨t208, n1, n2, rfl, hb⟩; refine ⟨_, rfl, ?_⟩; have HC5 := asd (HC4.out t208 n1 n2); clear n1 n2; have n0_ := asd (below_step hbw hb); clear HB; have HB := n0_; clear n0_; (try clear hb); (try clear hb2); (try clear hk); (try clear hi)))
  (try simp only [Act.put, List.setIfInBounds_toArray, List.set_cons_zero, List.set_cons_succ])
  go_cut [26] (fun v26 wc => ∃ (kq : Nat) (x26_3 : Bool), v26 = .bool x26_3 ∧ Aside0 (cusplaw05_SumsSplit.j0 kq a0 a1 t208 t209 x26_3 = some r) ∧ Aside0 (kq ≤ k) ∧ Aside0 (Below w.heap.size w wc))
  case first =>
    have H := HC5.out
    clear HC4 HC5
    replace H := Option.bind_eq_some_iff.mp H
    obtain ⟨t210, A60, H⟩ := H
    replace H : (if t210 = true then ((cuspref01_Finite.f a1).bind fun t211 => (if t211 = true then ((cuspref01_Finite.f t208).bind fun t212 => (cusplaw05_SumsSplit.j0 k a0 a1 t208 t209 (!t212))) else (cusplaw05_SumsSplit.j0 k a0 a1 t208 t209 true))) else (cusplaw05_SumsSplit.j0 k a0 a1 t208 t209 true)) = some r := H
    have A6 := asd A60
    clear A60
    by_cases c7 : t210 = true
    · subst c7
      have H1 : ((cuspref01_Finite.f a1).bind fun t211 => (if t211 = true then ((cuspref01_Finite.f t208).bind fun t212 => (cusplaw05_SumsSplit.j0 k a0 a1 t208 t209 (!t212))) else (cusplaw05_SumsSplit.j0 k a0 a1 t208 t209 true))) = some r := by rw [if_pos rfl] at H; exact H
      clear H
      have H := H1
      clear H1
      replace H := Option.bind_eq_some_iff.mp H
      obtain ⟨t211, A80, H⟩ := H
      replace H : (if t211 = true then ((cuspref01_Finite.f t208).bind fun t212 => (cusplaw05_SumsSplit.j0 k a0 a1 t208 t209 (!t212))) else (cusplaw05_SumsSplit.j0 k a0 a1 t208 t209 true)) = some r := H
      have A8 := asd A80
      clear A80
      by_cases c9 : t211 = true
      · subst c9
        have H1 : ((cuspref01_Finite.f t208).bind fun t212 => (cusplaw05_SumsSplit.j0 k a0 a1 t208 t209 (!t212))) = some r := by rw [if_pos rfl] at H; exact H
        clear H
        have H := H1
        clear H1
        replace H := Option.bind_eq_some_iff.mp H
        obtain ⟨t212, A100, H⟩ := H
        replace H : (cusplaw05_SumsSplit.j0 k a0 a1 t208 t209 (!t212)) = some r := H
        have A10 := asd A100
        clear A100
        have H' := asd H
        clear H
        go_wp2_with (first | ((with_reducible refine gate_callee (f := 24) rfl ?_); refine goesL_ (some 15) rfl rfl Tryz.func24 (by kernel_rfl) rfl #[.float .f64 a0] rfl eqA ?_; (with_reducible refine (cuspref01_Finite.calls a0 true _ A6.out).mono ?_); rintro e w' ⟨rfl, ⟨nd, rfl⟩⟩; refine ⟨_, rfl, ?_⟩) | (go_at_call 24; (with_reducible refine (cuspref01_Finite.calls a1 true _ A8.out).mono ?_); rintro e w' ⟨rfl, ⟨nd, rfl⟩⟩) | (go_at_call 24; (with_reducible refine (cuspref01_Finite.calls t208 t212 _ A10.out).mono ?_); rintro e w' ⟨rfl, ⟨nd, rfl⟩⟩))
        go_meet
        case rel => exact ⟨_, (!t212), eqB, H', ⟨by first | omega | exact Nat.le_refl _⟩, ⟨hbw⟩⟩
      · replace c9 := Bool.eq_false_iff.mpr c9
        subst c9
        have H1 : (cusplaw05_SumsSplit.j0 k a0 a1 t208 t209 true) = some r := by rw [if_neg (show ¬ (false = true) by decide)] at H; exact H
        clear H
        have H := H1
        clear H1
        have H' := asd H
        clear H
        go_wp2_with (first | ((with_reducible refine gate_callee (f := 24) rfl ?_); refine goesL_ (some 15) rfl rfl Tryz.func24 (by kernel_rfl) rfl #[.float .f64 a0] rfl eqA ?_; (with_reducible refine (cuspref01_Finite.calls a0 true _ A6.out).mono ?_); rintro e w' ⟨rfl, ⟨nd, rfl⟩⟩; refine ⟨_, rfl, ?_⟩) | (go_at_call 24; (with_reducible refine (cuspref01_Finite.calls a1 false _ A8.out).mono ?_); rintro e w' ⟨rfl, ⟨nd, rfl⟩⟩))
        go_meet
        case rel => exact ⟨_, (true), eqB, H', ⟨by first | omega | exact Nat.le_refl _⟩, ⟨hbw⟩⟩
    · replace c7 := Bool.eq_false_iff.mpr c7
      subst c7
      have H1 : (cusplaw05_SumsSplit.j0 k a0 a1 t208 t209 true) = some r := by rw [if_neg (show ¬ (false = true) by decide)] at H; exact H
      clear H
      have H := H1
      clear H1
      have H' := asd H
      clear H
      go_wp2_with (first | ((with_reducible refine gate_callee (f := 24) rfl ?_); refine goesL_ (some 15) rfl rfl Tryz.func24 (by kernel_rfl) rfl #[.float .f64 a0] rfl eqA ?_; (with_reducible refine (cuspref01_Finite.calls a0 false _ A6.out).mono ?_); rintro e w' ⟨rfl, ⟨nd, rfl⟩⟩; refine ⟨_, rfl, ?_⟩))
      go_meet
      case rel => exact ⟨_, (true), eqB, H', ⟨by first | omega | exact Nat.le_refl _⟩, ⟨hbw⟩⟩
  case rest =>
    clear HC4 HC5 HA HA1 HLL
    try clear c2
    try clear p2
    try clear c6
    try clear c7
    try clear c9
    obtain ⟨kq, x26_3, rfl, HA, HJ3, HB⟩ := hcut
    cases kq with
    | zero => exact absurd HA.out (by simp [cusplaw05_SumsSplit.j0])
    | succ kj3 =>
      have H := HA.out
      clear HA
      simp only [cusplaw05_SumsSplit.j0] at H
      by_cases c11 : x26_3 = true
      · subst c11
        have H1 : ((cusplaw05_same.f t209 (0 : Nat)).bind fun t213 => (if t213 = true then ((cusplaw05_sure.f).bind fun t214 => (some t214)) else (some false))) = some r := by rw [if_pos rfl] at H; exact H
        clear H
        have H := H1
        clear H1
        replace H := Option.bind_eq_some_iff.mp H
        obtain ⟨t213, A120, H⟩ := H
        replace H : (if t213 = true then ((cusplaw05_sure.f).bind fun t214 => (some t214)) else (some false)) = some r := H
        have A12 := asd A120
        clear A120
        by_cases c13 : t213 = true
        · subst c13
          have H1 : ((cusplaw05_sure.f).bind fun t214 => (some t214)) = some r := by rw [if_pos rfl] at H; exact H
          clear H
          have H := H1
          clear H1
          replace H := Option.bind_eq_some_iff.mp H
          obtain ⟨t214, A140, H⟩ := H
          replace H : (some t214) = some r := H
          have A14 := asd A140
          clear A140
          obtain rfl := Option.some.inj H
          go_wp2_with (first | ((with_reducible refine gate_callee (f := 11) rfl ?_); refine goesL_ (some 28) rfl rfl Tryz.func11 (by kernel_rfl) rfl #[.float .f64 t209, .float .f64 (0 : Nat)] rfl eqA ?_; (with_reducible refine (cusplaw05_same.calls t209 (0 : Nat) true _ A12.out).mono ?_); rintro e w' ⟨rfl, ⟨nd, rfl⟩⟩; refine ⟨_, rfl, ?_⟩) | (go_at_call 19; (with_reducible refine (sure_calls  t214 _ A14.out).mono ?_); rintro e w15 ⟨rfl, hb⟩; have n0_ := asd (below_step hbw hb); clear HB; have HB := n0_; clear n0_; (try clear hb); (try clear hb2); (try clear hk); (try clear hi)))
          go_ret
          exact ⟨eqC, hbw⟩
        · replace c13 := Bool.eq_false_iff.mpr c13
          subst c13
          have H1 : (some false) = some r := by rw [if_neg (show ¬ (false = true) by decide)] at H; exact H
          clear H
          have H := H1
          clear H1
          obtain rfl := Option.some.inj H
          go_wp2_with (first | ((with_reducible refine gate_callee (f := 11) rfl ?_); refine goesL_ (some 28) rfl rfl Tryz.func11 (by kernel_rfl) rfl #[.float .f64 t209, .float .f64 (0 : Nat)] rfl eqA ?_; (with_reducible refine (cusplaw05_same.calls t209 (0 : Nat) false _ A12.out).mono ?_); rintro e w' ⟨rfl, ⟨nd, rfl⟩⟩; refine ⟨_, rfl, ?_⟩))
          go_ret
          exact ⟨eqC, hbw⟩
      · replace c11 := Bool.eq_false_iff.mpr c11
        subst c11
        have H1 : ((cuspref01_Finite.f t209).bind fun t215 => (if t215 = true then ((cuspref02_Float.f kj3 a0).bind fun bt216 => ((cuspref02_Float.f kj3 a1).bind fun bt221 => ((cuspref02_Plus.f bt216.1 bt216.2.1 bt216.2.2 bt221.1 bt221.2.1 bt221.2.2).bind fun bt226 => ((cuspref02_Float.f kj3 t208).bind fun bt232 => ((cuspref02_Float.f kj3 t209).bind fun bt237 => ((cuspref02_Plus.f bt232.1 bt232.2.1 bt232.2.2 bt237.1 bt237.2.1 bt237.2.2).bind fun bt242 => ((cuspref02_Order.f kj3 bt226.1 bt226.2.1 bt226.2.2 bt242.1 bt242.2.1 bt242.2.2).bind fun t247 => (if t247 = 0 then ((cusplaw05_sure.f).bind fun t248 => (some t248)) else (some false))))))))) else (some false))) = some r := by rw [if_neg (show ¬ (false = true) by decide)] at H; exact H
        clear H
        have H := H1
        clear H1
        replace H := Option.bind_eq_some_iff.mp H
        obtain ⟨t215, A160, H⟩ := H
        replace H : (if t215 = true then ((cuspref02_Float.f kj3 a0).bind fun bt216 => ((cuspref02_Float.f kj3 a1).bind fun bt221 => ((cuspref02_Plus.f bt216.1 bt216.2.1 bt216.2.2 bt221.1 bt221.2.1 bt221.2.2).bind fun bt226 => ((cuspref02_Float.f kj3 t208).bind fun bt232 => ((cuspref02_Float.f kj3 t209).bind fun bt237 => ((cuspref02_Plus.f bt232.1 bt232.2.1 bt232.2.2 bt237.1 bt237.2.1 bt237.2.2).bind fun bt242 => ((cuspref02_Order.f kj3 bt226.1 bt226.2.1 bt226.2.2 bt242.1 bt242.2.1 bt242.2.2).bind fun t247 => (if t247 = 0 then ((cusplaw05_sure.f).bind fun t248 => (some t248)) else (some false))))))))) else (some false)) = some r := H
        have A16 := asd A160
        clear A160
        by_cases c17 : t215 = true
        · subst c17
          have H1 : ((cuspref02_Float.f kj3 a0).bind fun bt216 => ((cuspref02_Float.f kj3 a1).bind fun bt221 => ((cuspref02_Plus.f bt216.1 bt216.2.1 bt216.2.2 bt221.1 bt221.2.1 bt221.2.2).bind fun bt226 => ((cuspref02_Float.f kj3 t208).bind fun bt232 => ((cuspref02_Float.f kj3 t209).bind fun bt237 => ((cuspref02_Plus.f bt232.1 bt232.2.1 bt232.2.2 bt237.1 bt237.2.1 bt237.2.2).bind fun bt242 => ((cuspref02_Order.f kj3 bt226.1 bt226.2.1 bt226.2.2 bt242.1 bt242.2.1 bt242.2.2).bind fun t247 => (if t247 = 0 then ((cusplaw05_sure.f).bind fun t248 => (some t248)) else (some false))))))))) = some r := by rw [if_pos rfl] at H; exact H
          clear H
          have H := H1
          clear H1
          replace H := Option.bind_eq_some_iff.mp H
          obtain ⟨⟨t216, t217, t220⟩, A180, H⟩ := H
          replace H : ((cuspref02_Float.f kj3 a1).bind fun bt221 => ((cuspref02_Plus.f t216 t217 t220 bt221.1 bt221.2.1 bt221.2.2).bind fun bt226 => ((cuspref02_Float.f kj3 t208).bind fun bt232 => ((cuspref02_Float.f kj3 t209).bind fun bt237 => ((cuspref02_Plus.f bt232.1 bt232.2.1 bt232.2.2 bt237.1 bt237.2.1 bt237.2.2).bind fun bt242 => ((cuspref02_Order.f kj3 bt226.1 bt226.2.1 bt226.2.2 bt242.1 bt242.2.1 bt242.2.2).bind fun t247 => (if t247 = 0 then ((cusplaw05_sure.f).bind fun t248 => (some t248)) else (some false)))))))) = some r := H
          have A18 := asd A180
          clear A180
          replace H := Option.bind_eq_some_iff.mp H
          obtain ⟨⟨t221, t222, t225⟩, A190, H⟩ := H
          replace H : ((cuspref02_Plus.f t216 t217 t220 t221 t222 t225).bind fun bt226 => ((cuspref02_Float.f kj3 t208).bind fun bt232 => ((cuspref02_Float.f kj3 t209).bind fun bt237 => ((cuspref02_Plus.f bt232.1 bt232.2.1 bt232.2.2 bt237.1 bt237.2.1 bt237.2.2).bind fun bt242 => ((cuspref02_Order.f kj3 bt226.1 bt226.2.1 bt226.2.2 bt242.1 bt242.2.1 bt242.2.2).bind fun t247 => (if t247 = 0 then ((cusplaw05_sure.f).bind fun t248 => (some t248)) else (some false))))))) = some r := H
          have A19 := asd A190
          clear A190
          replace H := Option.bind_eq_some_iff.mp H
          obtain ⟨⟨t226, t227, t230⟩, A200, H⟩ := H
          replace H : ((cuspref02_Float.f kj3 t208).bind fun bt232 => ((cuspref02_Float.f kj3 t209).bind fun bt237 => ((cuspref02_Plus.f bt232.1 bt232.2.1 bt232.2.2 bt237.1 bt237.2.1 bt237.2.2).bind fun bt242 => ((cuspref02_Order.f kj3 t226 t227 t230 bt242.1 bt242.2.1 bt242.2.2).bind fun t247 => (if t247 = 0 then ((cusplaw05_sure.f).bind fun t248 => (some t248)) else (some false)))))) = some r := H
          have A20 := asd A200
          clear A200
          replace H := Option.bind_eq_some_iff.mp H
          obtain ⟨⟨t232, t233, t236⟩, A210, H⟩ := H
          replace H : ((cuspref02_Float.f kj3 t209).bind fun bt237 => ((cuspref02_Plus.f t232 t233 t236 bt237.1 bt237.2.1 bt237.2.2).bind fun bt242 => ((cuspref02_Order.f kj3 t226 t227 t230 bt242.1 bt242.2.1 bt242.2.2).bind fun t247 => (if t247 = 0 then ((cusplaw05_sure.f).bind fun t248 => (some t248)) else (some false))))) = some r := H
          have A21 := asd A210
          clear A210
          replace H := Option.bind_eq_some_iff.mp H
          obtain ⟨⟨t237, t238, t241⟩, A220, H⟩ := H
          replace H : ((cuspref02_Plus.f t232 t233 t236 t237 t238 t241).bind fun bt242 => ((cuspref02_Order.f kj3 t226 t227 t230 bt242.1 bt242.2.1 bt242.2.2).bind fun t247 => (if t247 = 0 then ((cusplaw05_sure.f).bind fun t248 => (some t248)) else (some false)))) = some r := H
          have A22 := asd A220
          clear A220
          replace H := Option.bind_eq_some_iff.mp H
          obtain ⟨⟨t242, t243, t246⟩, A230, H⟩ := H
          replace H : ((cuspref02_Order.f kj3 t226 t227 t230 t242 t243 t246).bind fun t247 => (if t247 = 0 then ((cusplaw05_sure.f).bind fun t248 => (some t248)) else (some false))) = some r := H
          have A23 := asd A230
          clear A230
          replace H := Option.bind_eq_some_iff.mp H
          obtain ⟨t247, A240, H⟩ := H
          replace H : (if t247 = 0 then ((cusplaw05_sure.f).bind fun t248 => (some t248)) else (some false)) = some r := H
          have A24 := asd A240
          clear A240
          by_cases c25 : t247 = 0
          · rw [if_pos c25] at H
            have c25b0 : (t247 == 0) = true := beq_iff_eq.mpr c25
            have c25b1 : (t247 != 0) = false := bne_eq_false_iff_eq.mpr c25
            clear c25
            replace H := Option.bind_eq_some_iff.mp H
            obtain ⟨t248, A260, H⟩ := H
            replace H : (some t248) = some r := H
            have A26 := asd A260
            clear A260
            obtain rfl := Option.some.inj H
            try go_wp2_with (first | ((with_reducible refine gate_callee (f := 24) rfl ?_); refine goesL_ (some 33) rfl rfl Tryz.func24 (by kernel_rfl) rfl #[.float .f64 t209] rfl eqA ?_; (with_reducible refine (cuspref01_Finite.calls t209 true _ A16.out).mono ?_); rintro e w' ⟨rfl, ⟨nd, rfl⟩⟩; refine ⟨_, rfl, ?_⟩; (try (rw [drewN_self wc]; generalize hq_ : World.drewN wc _ = wc; have n0_ : Aside0 (Below w.heap.size w wc) := ⟨by rw [← hq_]; exact hbw⟩; clear HB hq_; have HB := n0_; clear n0_))) | ((with_reducible refine gate_callee (f := 26) rfl ?_); refine goesL_ (some 36) rfl rfl Tryz.func26 (by kernel_rfl) rfl #[.float .f64 a0] rfl eqA ?_; (with_reducible refine (cuspref02_Float.calls kj3 a0 t216 t217 t220 _ A18.out).mono ?_); rintro e w27 ⟨v218, rfl, ho0, hb⟩; refine ⟨_, rfl, ?_⟩; have n0_ := asd (Kd.R_lower ho0 (below_size hbw)); have n1_ := asd (below_step hbw hb); clear HB; have HO219 := n0_; have HB := n1_; clear n0_ n1_; (try clear hb); (try clear hb2); (try clear hk); (try clear hi); (try clear ho0)) | ((with_reducible refine gate_callee (f := 26) rfl ?_); refine goesL_ (some 38) rfl rfl Tryz.func26 (by kernel_rfl) rfl #[.float .f64 a1] rfl eqA ?_; (with_reducible refine (cuspref02_Float.calls kj3 a1 t221 t222 t225 _ A19.out).mono ?_); rintro e w28 ⟨v223, rfl, ho0, hb⟩; refine ⟨_, rfl, ?_⟩; have n0_ := asd (Kd.R_elder' (rUp HO219.out) (Kd.R_base ho0) hb); have n1_ := asd (Kd.R_lower (Kd.R_new' ho0 (Kd.R_lt (rUp HO219.out))) (below_size hbw)); have n2_ := asd (below_step hbw hb); clear HO219; clear HB; have HO219 := n0_; have HO224 := n1_; have HB := n2_; clear n0_ n1_ n2_; (try clear hb); (try clear hb2); (try clear hk); (try clear hi); (try clear ho0); obtain ⟨Ao29, co29, eo29⟩ := Kd.R_slice HO219.out; subst eo29; obtain ⟨Ao30, co30, eo30⟩ := Kd.R_slice HO224.out; subst eo30) | ((with_reducible refine gate_callee (f := 25) rfl ?_); refine goesL_ (some 39) rfl rfl Tryz.func25 (by kernel_rfl) rfl #[.agg #[.bool t216, .slice Ao29 t217.length co29, .int .i64 t220], .agg #[.bool t221, .slice Ao30 t222.length co30, .int .i64 t225]] rfl eqA ?_; (with_reducible refine (cuspref02_Plus.calls t216 _ _ t217 t220 t221 _ _ t222 t225 t226 t227 t230 _ ?side1 ?side2 ?side3 ?side4 A20.out).mono ?_); (case side1 => repeat (first | exact (Kd.R_reads' HO219.out).2.2 | (with_reducible refine Kd.C_alloc ?_ _) | (with_reducible refine Kd.C_drewN ?_ _) | (with_reducible refine Kd.C_drew ?_))); (case side2 => exact (Kd.R_reads' HO219.out).2.1); (case side3 => repeat (first | exact (Kd.R_reads' HO224.out).2.2 | (with_reducible refine Kd.C_alloc ?_ _) | (with_reducible refine Kd.C_drewN ?_ _) | (with_reducible refine Kd.C_drew ?_))); (case side4 => exact (Kd.R_reads' HO224.out).2.1); rintro e w31 ⟨v228, rfl, ho0, hb⟩; refine ⟨_, rfl, ?_⟩; have n0_ := asd (Kd.R_elder' (rUp HO219.out) (Kd.R_base ho0) hb); have n1_ := asd (Kd.R_elder' (rUp HO224.out) (Kd.R_base ho0) hb); have n2_ := asd (Kd.R_lower (Kd.R_new' (Kd.R_new' ho0 (Kd.R_lt (rUp HO219.out))) (Kd.R_lt (rUp HO224.out))) (below_size hbw)); have n3_ := asd (below_step hbw hb); clear HO219; clear HO224; clear HB; have HO219 := n0_; have HO224 := n1_; have HO229 := n2_; have HB := n3_; clear n0_ n1_ n2_ n3_; (try clear hb); (try clear hb2); (try clear hk); (try clear hi); (try clear ho0)) | ((with_reducible refine gate_dst (N := 7) rfl ?_); refine box_event ?hg (N := 7) ?hd (cs := #[.bool false, .slice none 0 0, .int .i64 0]) (t := 41) ?hr ?_; (case hd => rfl); (case hg => rfl); (case hr => first | (go_simp; done) | (go_simp; rfl)); intro gb231 hg w32 hbox hb; have n0_ := asd (Kd.R_below (rUp HO219.out) hb); have n1_ := asd (Kd.R_below (rUp HO224.out) hb); have n2_ := asd (Kd.R_below (rUp HO229.out) hb); have n3_ := asd (below_step hbw hb); have n4_ := asd (hbox); have n5_ := asd ((by rw [hg]; exact (below_size hbw) : w.heap.size ≤ gb231)); have n6_ := asd ((by rw [hg]; exact (below_size hbw) : w.heap.size ≤ gb231)); clear HO219; clear HO224; clear HO229; clear HB; have HO219 := n0_; have HO224 := n1_; have HO229 := n2_; have HB := n3_; have BK231 := n4_; have GW231 := n5_; have GE231 := n6_; clear n0_ n1_ n2_ n3_ n4_ n5_ n6_; clear hb hbox hg; have hcz33_0 : w32.cell? ⟨gb231, 0, none⟩ = some (.bool false) := (blk_cell BK231.out 0).trans rfl; have hcz33_1 : w32.cell? ⟨gb231, 1, none⟩ = some (.slice none 0 0) := (blk_cell BK231.out 1).trans rfl; have hcz33_2 : w32.cell? ⟨gb231, 2, none⟩ = some (.int .i64 0) := (blk_cell BK231.out 2).trans rfl; have hfz33_0 := blk_frozen BK231.out 0; have hfz33_1 := blk_frozen BK231.out 1; have hfz33_2 := blk_frozen BK231.out 2; obtain ⟨Ao34, co34, eo34⟩ := Kd.R_slice HO229.out; subst eo34))
            have n0_ : Aside0 (Kd.R (Kd.int .u32) 83 (((w32.setCell ⟨gb231, 0, none⟩ (.bool t226)).setCell ⟨gb231, 1, none⟩ (.slice Ao34 t227.length co34)).setCell ⟨gb231, 2, none⟩ (.int .i64 t230)) w.heap.size (fun k_ => some k_ ≠ (.slice Ao30 t222.length co30 : Value).ownBlock ∧ some k_ ≠ (.slice Ao34 t227.length co34 : Value).ownBlock) (.slice Ao29 t217.length co29) t217) := ⟨by (with_reducible repeat (first | apply Kd.R_alloc | apply Kd.R_drewN | apply Kd.R_drew)); exact Kd.R_mono (Kd.R_far (p := ⟨gb231, 2, none⟩) (Kd.R_far (p := ⟨gb231, 1, none⟩) (Kd.R_far (p := ⟨gb231, 0, none⟩) (Kd.R_types HO219.out BK231.out (by decide)) (fun _ hk => hk.2) (.bool t226)) (fun _ hk => hk.2) (.slice Ao34 t227.length co34)) (fun _ hk => hk.2) (.int .i64 t230)) (fun _ hk => ⟨hk.1.1.2, hk.1.2⟩)⟩
            have n1_ : Aside0 (Kd.R (Kd.int .u32) 83 (((w32.setCell ⟨gb231, 0, none⟩ (.bool t226)).setCell ⟨gb231, 1, none⟩ (.slice Ao34 t227.length co34)).setCell ⟨gb231, 2, none⟩ (.int .i64 t230)) w.heap.size (fun k_ => some k_ ≠ (.slice Ao29 t217.length co29 : Value).ownBlock ∧ some k_ ≠ (.slice Ao34 t227.length co34 : Value).ownBlock) (.slice Ao30 t222.length co30) t222) := ⟨by (with_reducible repeat (first | apply Kd.R_alloc | apply Kd.R_drewN | apply Kd.R_drew)); exact Kd.R_mono (Kd.R_far (p := ⟨gb231, 2, none⟩) (Kd.R_far (p := ⟨gb231, 1, none⟩) (Kd.R_far (p := ⟨gb231, 0, none⟩) (Kd.R_types HO224.out BK231.out (by decide)) (fun _ hk => hk.2) (.bool t226)) (fun _ hk => hk.2) (.slice Ao34 t227.length co34)) (fun _ hk => hk.2) (.int .i64 t230)) (fun _ hk => ⟨hk.1.1.2, hk.1.2⟩)⟩
            have n2_ : Aside0 (Kd.R (Kd.int .u32) 83 (((w32.setCell ⟨gb231, 0, none⟩ (.bool t226)).setCell ⟨gb231, 1, none⟩ (.slice Ao34 t227.length co34)).setCell ⟨gb231, 2, none⟩ (.int .i64 t230)) w.heap.size (fun k_ => some k_ ≠ (.slice Ao29 t217.length co29 : Value).ownBlock ∧ some k_ ≠ (.slice Ao30 t222.length co30 : Value).ownBlock) (.slice Ao34 t227.length co34) t227) := ⟨by (with_reducible repeat (first | apply Kd.R_alloc | apply Kd.R_drewN | apply Kd.R_drew)); exact Kd.R_mono (Kd.R_far (p := ⟨gb231, 2, none⟩) (Kd.R_far (p := ⟨gb231, 1, none⟩) (Kd.R_far (p := ⟨gb231, 0, none⟩) (Kd.R_types HO229.out BK231.out (by decide)) (fun _ hk => hk.2) (.bool t226)) (fun _ hk => hk.2) (.slice Ao34 t227.length co34)) (fun _ hk => hk.2) (.int .i64 t230)) (fun _ hk => ⟨hk.1.1.2, hk.1.2⟩)⟩
            have n3_ : Aside0 ((((w32.setCell ⟨gb231, 0, none⟩ (.bool t226)).setCell ⟨gb231, 1, none⟩ (.slice Ao34 t227.length co34)).setCell ⟨gb231, 2, none⟩ (.int .i64 t230)).heap[gb231]? = some (.cells #[.bool t226, .slice Ao34 t227.length co34, .int .i64 t230] 41 (0, 0))) := ⟨by (with_reducible repeat (first | refine blk_drewN ?_ _ | refine blk_drew ?_ | refine blk_alloc ?_ _)); refine blk_put (cs := #[.bool t226, .slice Ao34 t227.length co34, .int .i64 0]) ?_ 2 _ rfl; (with_reducible repeat (first | refine blk_drewN ?_ _ | refine blk_drew ?_ | refine blk_alloc ?_ _)); refine blk_put (cs := #[.bool t226, .slice none 0 0, .int .i64 0]) ?_ 1 _ rfl; (with_reducible repeat (first | refine blk_drewN ?_ _ | refine blk_drew ?_ | refine blk_alloc ?_ _)); refine blk_put (cs := #[.bool false, .slice none 0 0, .int .i64 0]) ?_ 0 _ rfl; (with_reducible repeat (first | refine blk_drewN ?_ _ | refine blk_drew ?_ | refine blk_alloc ?_ _)); exact BK231.out⟩
            have n4_ : Aside0 (Below w.heap.size w (((w32.setCell ⟨gb231, 0, none⟩ (.bool t226)).setCell ⟨gb231, 1, none⟩ (.slice Ao34 t227.length co34)).setCell ⟨gb231, 2, none⟩ (.int .i64 t230))) := ⟨by repeat (first | (with_reducible first | exact HB.out | apply below_alloc | apply pw_below_drewN | apply below_drew1 | refine below_set ?_ GE231.out) | exact HB.out)⟩
            (try clear HO219)
            (try clear HO224)
            (try clear HO229)
            (try clear BK231)
            (try clear HB)
            generalize (((w32.setCell ⟨gb231, 0, none⟩ (.bool t226)).setCell ⟨gb231, 1, none⟩ (.slice Ao34 t227.length co34)).setCell ⟨gb231, 2, none⟩ (.int .i64 t230)) = w35 at n0_ n1_ n2_ n3_ n4_ ⊢
            have HO219 := n0_
            have HO224 := n1_
            have HO229 := n2_
            have BK231 := n3_
            have HB := n4_
            clear n0_ n1_ n2_ n3_ n4_
            have n0_ := asd (Kd.R_drew HO219.out)
            have n1_ := asd (Kd.R_drew HO224.out)
            have n2_ := asd (Kd.R_drew HO229.out)
            have n3_ := asd (blk_drew BK231.out)
            have n4_ := asd (below_drew1 HB.out)
            clear HO219
            clear HO224
            clear HO229
            clear BK231
            clear HB
            have HO219 := n0_
            have HO224 := n1_
            have HO229 := n2_
            have BK231 := n3_
            have HB := n4_
            clear n0_ n1_ n2_ n3_ n4_
            refine start_ (n := 12) (S := fun w' => w'.cell? ⟨gb231, 0, none⟩ = some (.bool t226) ∧ w'.cell? ⟨gb231, 1, none⟩ = some (.slice Ao34 t227.length co34) ∧ w'.cell? ⟨gb231, 2, none⟩ = some (.int .i64 t230)) (ds := []) #[false, false, false, false, false, false, false, false, false, false, false, false] (by kernel_rfl) rfl rfl ⟨(blk_cell BK231.out 0).trans rfl, (blk_cell BK231.out 1).trans rfl, (blk_cell BK231.out 2).trans rfl⟩ (fun hHeld => ?_); refine with_tabW cusplaw05_SumsSplit.tab7 cusplaw05_SumsSplit.bits7 (fun HT_ HW_ => ?_)
            generalize w35.drew = w36 at HO219 HO224 HO229 BK231 HB hHeld ⊢
            refine pure_ (i := 1) (N := some 41) (v := ?_) (a' := ?_) #[false, true, false, false, false, false, false, false, false, false, false, false] rfl rfl (any_of HT_.out (by kernel_rfl)) (fun _ _ _ h => h) (Or.inl ⟨by rfl, ?_⟩) ?_ ?_
            rotate_left
            · intro w'
              go_simp
              with_reducible rfl
            rotate_left
            · simp only [Act.put, List.setIfInBounds_toArray, List.set_cons_zero, List.set_cons_succ, i64_w, i32_w]
              rfl
            refine pure_ (i := 3) (N := some 43) (v := ?_) (a' := ?_) #[false, true, false, true, false, false, false, false, false, false, false, false] rfl rfl (any_of HT_.out (by kernel_rfl)) (fun _ _ _ h => h) (Or.inl ⟨by rfl, ?_⟩) ?_ ?_
            rotate_left
            · intro w'
              go_simp
              with_reducible rfl
            rotate_left
            · simp only [Act.put, List.setIfInBounds_toArray, List.set_cons_zero, List.set_cons_succ, i64_w, i32_w]
              rfl
            refine take_ (i := 0) (N := some 40) (v := ?_) (a' := ?_) #[true, true, false, true, false, false, false, false, false, false, false, false] rfl rfl (take_ofW HT_.out HW_.out (by kernel_rfl)) (fun _ _ _ h => h) (Or.inl ⟨by rfl, ?_⟩) hHeld ?_ ?_
            rotate_left
            · rintro w' ⟨s0, s1, s2⟩
              go_simp
              with_reducible rfl
            rotate_left
            · simp only [Act.put, List.setIfInBounds_toArray, List.set_cons_zero, List.set_cons_succ, i64_w, i32_w]
              rfl
            refine one_ (i := 2) (N := some 42) #[true, true, true, true, false, false, false, false, false, false, false, false] rfl rfl (one_of HT_.out (by kernel_rfl)) (by decide) (fun K hK => ?_)
            refine goes_ Tryz.func26 (by kernel_rfl) rfl #[.float .f64 t208] (by rfl) rfl rfl eqA ?_
            with_reducible refine (cuspref02_Float.calls kj3 t208 t232 t233 t236 _ A21.out).mono ?_
            rintro e w37 ⟨v234, rfl, ho0, hb⟩
            refine ⟨_, rfl, ?_⟩
            have n0_ := asd (Kd.R_elder' (rUp HO219.out) (Kd.R_base ho0) hb)
            have n1_ := asd (Kd.R_elder' (rUp HO224.out) (Kd.R_base ho0) hb)
            have n2_ := asd (Kd.R_elder' (rUp HO229.out) (Kd.R_base ho0) hb)
            have n3_ := asd (Kd.R_lower (Kd.R_new' (Kd.R_new' (Kd.R_new' ho0 (Kd.R_lt (rUp HO219.out))) (Kd.R_lt (rUp HO224.out))) (Kd.R_lt (rUp HO229.out))) (below_size (by repeat (first | (with_reducible first | exact HB.out | apply below_alloc | apply pw_below_drewN | apply below_drew1 | refine below_set ?_ GE231.out) | exact HB.out))))
            have n4_ := asd (blk_below (g := gb231) (o := .cells #[.bool t226, .slice Ao34 t227.length co34, .int .i64 t230] 41 (0, 0)) (blkU BK231.out) hb)
            have n5_ := asd (below_step (by repeat (first | (with_reducible first | exact HB.out | apply below_alloc | apply pw_below_drewN | apply below_drew1 | refine below_set ?_ GE231.out) | exact HB.out)) hb)
            clear HO219
            clear HO224
            clear HO229
            clear BK231
            clear HB
            have HO219 := n0_
            have HO224 := n1_
            have HO229 := n2_
            have HO235 := n3_
            have BK231 := n4_
            have HB := n5_
            clear n0_ n1_ n2_ n3_ n4_ n5_
            (try clear hb)
            (try clear hb2)
            (try clear hk)
            (try clear hi)
            (try clear ho0)
            refine hK.out _ _ ⟨(blk_cell BK231.out 0).trans rfl, (blk_cell BK231.out 1).trans rfl, (blk_cell BK231.out 2).trans rfl⟩ (fun hHeld => ?_)
            clear hK K
            refine norm_ (a' := ?_) ?_ ?_
            rotate_left
            · show Act.put _ (some 42) _ = _
              simp only [Act.put, List.setIfInBounds_toArray, List.set_cons_zero, List.set_cons_succ, i64_w, i32_w]
              rfl
            refine one_ (i := 4) (N := some 44) #[true, true, true, true, true, false, false, false, false, false, false, false] rfl rfl (one_of HT_.out (by kernel_rfl)) (by decide) (fun K hK => ?_)
            refine goes_ Tryz.func26 (by kernel_rfl) rfl #[.float .f64 t209] (by rfl) rfl rfl eqA ?_
            with_reducible refine (cuspref02_Float.calls kj3 t209 t237 t238 t241 _ A22.out).mono ?_
            rintro e w38 ⟨v239, rfl, ho0, hb⟩
            refine ⟨_, rfl, ?_⟩
            have n0_ := asd (Kd.R_elder' (rUp HO219.out) (Kd.R_base ho0) hb)
            have n1_ := asd (Kd.R_elder' (rUp HO224.out) (Kd.R_base ho0) hb)
            have n2_ := asd (Kd.R_elder' (rUp HO229.out) (Kd.R_base ho0) hb)
            have n3_ := asd (Kd.R_elder' (rUp HO235.out) (Kd.R_base ho0) hb)
            have n4_ := asd (Kd.R_lower (Kd.R_new' (Kd.R_new' (Kd.R_new' (Kd.R_new' ho0 (Kd.R_lt (rUp HO219.out))) (Kd.R_lt (rUp HO224.out))) (Kd.R_lt (rUp HO229.out))) (Kd.R_lt (rUp HO235.out))) (below_size (by repeat (first | (with_reducible first | exact HB.out | apply below_alloc | apply pw_below_drewN | apply below_drew1 | refine below_set ?_ GE231.out) | exact HB.out))))
            have n5_ := asd (blk_below (g := gb231) (o := .cells #[.bool t226, .slice Ao34 t227.length co34, .int .i64 t230] 41 (0, 0)) (blkU BK231.out) hb)
            have n6_ := asd (below_step (by repeat (first | (with_reducible first | exact HB.out | apply below_alloc | apply pw_below_drewN | apply below_drew1 | refine below_set ?_ GE231.out) | exact HB.out)) hb)
            clear HO219
            clear HO224
            clear HO229
            clear HO235
            clear BK231
            clear HB
            have HO219 := n0_
            have HO224 := n1_
            have HO229 := n2_
            have HO235 := n3_
            have HO240 := n4_
            have BK231 := n5_
            have HB := n6_
            clear n0_ n1_ n2_ n3_ n4_ n5_ n6_
            (try clear hb)
            (try clear hb2)
            (try clear hk)
            (try clear hi)
            (try clear ho0)
            obtain ⟨Ao39, co39, eo39⟩ := Kd.R_slice HO235.out
            (first | subst eo39 | (injection eo39 with f1_ f2_ f3_; have f4_ := f1_.symm; have f5_ := f3_.symm; clear f1_ f2_ f3_; subst f4_; subst f5_))
            obtain ⟨Ao40, co40, eo40⟩ := Kd.R_slice HO240.out
            (first | subst eo40 | (injection eo40 with f1_ f2_ f3_; have f4_ := f1_.symm; have f5_ := f3_.symm; clear f1_ f2_ f3_; subst f4_; subst f5_))
            refine hK.out _ _ ⟨(blk_cell BK231.out 0).trans rfl, (blk_cell BK231.out 1).trans rfl, (blk_cell BK231.out 2).trans rfl⟩ (fun hHeld => ?_)
            clear hK K
            refine norm_ (a' := ?_) ?_ ?_
            rotate_left
            · show Act.put _ (some 44) _ = _
              simp only [Act.put, List.setIfInBounds_toArray, List.set_cons_zero, List.set_cons_succ, i64_w, i32_w]
              rfl
            refine one_ (i := 5) (N := some 45) #[true, true, true, true, true, true, false, false, false, false, false, false] rfl rfl (one_of HT_.out (by kernel_rfl)) (by decide) (fun K hK => ?_)
            refine goes_ Tryz.func25 (by kernel_rfl) rfl #[.agg #[.bool t232, .slice Ao39 t233.length co39, .int .i64 t236], .agg #[.bool t237, .slice Ao40 t238.length co40, .int .i64 t241]] (by rfl) rfl rfl eqA ?_
            with_reducible refine (cuspref02_Plus.calls t232 _ _ t233 t236 t237 _ _ t238 t241 t242 t243 t246 _ ?side1 ?side2 ?side3 ?side4 A23.out).mono ?_
            (case side1 => repeat (first | exact (Kd.R_reads' HO235.out).2.2 | (with_reducible refine Kd.C_alloc ?_ _) | (with_reducible refine Kd.C_drewN ?_ _) | (with_reducible refine Kd.C_drew ?_)))
            (case side2 => exact (Kd.R_reads' HO235.out).2.1)
            (case side3 => repeat (first | exact (Kd.R_reads' HO240.out).2.2 | (with_reducible refine Kd.C_alloc ?_ _) | (with_reducible refine Kd.C_drewN ?_ _) | (with_reducible refine Kd.C_drew ?_)))
            (case side4 => exact (Kd.R_reads' HO240.out).2.1)
            rintro e w41 ⟨v244, rfl, ho0, hb⟩
            refine ⟨_, rfl, ?_⟩
            have n0_ := asd (Kd.R_elder' (rUp HO219.out) (Kd.R_base ho0) hb)
            have n1_ := asd (Kd.R_elder' (rUp HO224.out) (Kd.R_base ho0) hb)
            have n2_ := asd (Kd.R_elder' (rUp HO229.out) (Kd.R_base ho0) hb)
            have n3_ := asd (Kd.R_elder' (rUp HO235.out) (Kd.R_base ho0) hb)
            have n4_ := asd (Kd.R_elder' (rUp HO240.out) (Kd.R_base ho0) hb)
            have n5_ := asd (Kd.R_lower (Kd.R_new' (Kd.R_new' (Kd.R_new' (Kd.R_new' (Kd.R_new' ho0 (Kd.R_lt (rUp HO219.out))) (Kd.R_lt (rUp HO224.out))) (Kd.R_lt (rUp HO229.out))) (Kd.R_lt (rUp HO235.out))) (Kd.R_lt (rUp HO240.out))) (below_size (by repeat (first | (with_reducible first | exact HB.out | apply below_alloc | apply pw_below_drewN | apply below_drew1 | refine below_set ?_ GE231.out) | exact HB.out))))
            have n6_ := asd (blk_below (g := gb231) (o := .cells #[.bool t226, .slice Ao34 t227.length co34, .int .i64 t230] 41 (0, 0)) (blkU BK231.out) hb)
            have n7_ := asd (below_step (by repeat (first | (with_reducible first | exact HB.out | apply below_alloc | apply pw_below_drewN | apply below_drew1 | refine below_set ?_ GE231.out) | exact HB.out)) hb)
            clear HO219
            clear HO224
            clear HO229
            clear HO235
            clear HO240
            clear BK231
            clear HB
            have HO219 := n0_
            have HO224 := n1_
            have HO229 := n2_
            have HO235 := n3_
            have HO240 := n4_
            have HO245 := n5_
            have BK231 := n6_
            have HB := n7_
            clear n0_ n1_ n2_ n3_ n4_ n5_ n6_ n7_
            (try clear hb)
            (try clear hb2)
            (try clear hk)
            (try clear hi)
            (try clear ho0)
            obtain ⟨Ao42, co42, eo42⟩ := Kd.R_slice HO245.out
            (first | subst eo42 | (injection eo42 with f1_ f2_ f3_; have f4_ := f1_.symm; have f5_ := f3_.symm; clear f1_ f2_ f3_; subst f4_; subst f5_))
            refine hK.out _ _ ⟨(blk_cell BK231.out 0).trans rfl, (blk_cell BK231.out 1).trans rfl, (blk_cell BK231.out 2).trans rfl⟩ (fun hHeld => ?_)
            clear hK K
            refine norm_ (a' := ?_) ?_ ?_
            rotate_left
            · show Act.put _ (some 45) _ = _
              simp only [Act.put, List.setIfInBounds_toArray, List.set_cons_zero, List.set_cons_succ, i64_w, i32_w]
              rfl
            refine one_ (i := 6) (N := some 46) #[true, true, true, true, true, true, true, false, false, false, false, false] rfl rfl (one_of HT_.out (by kernel_rfl)) (by decide) (fun K hK => ?_)
            refine goes_ Tryz.func27 (by kernel_rfl) rfl #[.agg #[.bool t226, .slice Ao34 t227.length co34, .int .i64 t230], .agg #[.bool t242, .slice Ao42 t243.length co42, .int .i64 t246]] (by rfl) rfl rfl eqA ?_
            with_reducible refine (cuspref02_Order.calls kj3 t226 _ _ t227 t230 t242 _ _ t243 t246 t247 _ ?side1 ?side2 ?side3 ?side4 A24.out).mono ?_
            (case side1 => repeat (first | exact (Kd.R_reads' HO229.out).2.2 | (with_reducible refine Kd.C_alloc ?_ _) | (with_reducible refine Kd.C_drewN ?_ _) | (with_reducible refine Kd.C_drew ?_)))
            (case side2 => exact (Kd.R_reads' HO229.out).2.1)
            (case side3 => repeat (first | exact (Kd.R_reads' HO245.out).2.2 | (with_reducible refine Kd.C_alloc ?_ _) | (with_reducible refine Kd.C_drewN ?_ _) | (with_reducible refine Kd.C_drew ?_)))
            (case side4 => exact (Kd.R_reads' HO245.out).2.1)
            rintro e w43 ⟨rfl, hb⟩
            refine ⟨_, rfl, ?_⟩
            have n0_ := asd (Kd.R_below (rUp HO219.out) hb)
            have n1_ := asd (Kd.R_below (rUp HO224.out) hb)
            have n2_ := asd (Kd.R_below (rUp HO229.out) hb)
            have n3_ := asd (Kd.R_below (rUp HO235.out) hb)
            have n4_ := asd (Kd.R_below (rUp HO240.out) hb)
            have n5_ := asd (Kd.R_below (rUp HO245.out) hb)
            have n6_ := asd (blk_below (g := gb231) (o := .cells #[.bool t226, .slice Ao34 t227.length co34, .int .i64 t230] 41 (0, 0)) (blkU BK231.out) hb)
            have n7_ := asd (below_step (by repeat (first | (with_reducible first | exact HB.out | apply below_alloc | apply pw_below_drewN | apply below_drew1 | refine below_set ?_ GE231.out) | exact HB.out)) hb)
            clear HO219
            clear HO224
            clear HO229
            clear HO235
            clear HO240
            clear HO245
            clear BK231
            clear HB
            have HO219 := n0_
            have HO224 := n1_
            have HO229 := n2_
            have HO235 := n3_
            have HO240 := n4_
            have HO245 := n5_
            have BK231 := n6_
            have HB := n7_
            clear n0_ n1_ n2_ n3_ n4_ n5_ n6_ n7_
            (try clear hb)
            (try clear hb2)
            (try clear hk)
            (try clear hi)
            refine hK.out _ _ ⟨(blk_cell BK231.out 0).trans rfl, (blk_cell BK231.out 1).trans rfl, (blk_cell BK231.out 2).trans rfl⟩ (fun hHeld => ?_)
            clear hK K
            refine norm_ (a' := ?_) ?_ ?_
            rotate_left
            · show Act.put _ (some 46) _ = _
              simp only [Act.put, List.setIfInBounds_toArray, List.set_cons_zero, List.set_cons_succ, i64_w, i32_w]
              rfl
            refine pure_ (i := 7) (N := some 47) (v := ?_) (a' := ?_) #[true, true, true, true, true, true, true, true, false, false, false, false] rfl rfl (any_of HT_.out (by kernel_rfl)) (fun _ _ _ h => h) (Or.inl ⟨by rfl, ?_⟩) ?_ ?_
            rotate_left
            · intro w'
              go_simp
              with_reducible rfl
            rotate_left
            · simp only [Act.put, List.setIfInBounds_toArray, List.set_cons_zero, List.set_cons_succ, i64_w, i32_w]
              rfl
            refine pure_ (i := 8) (N := some 48) (v := ?_) (a' := ?_) #[true, true, true, true, true, true, true, true, true, false, false, false] rfl rfl (any_of HT_.out (by kernel_rfl)) (fun _ _ _ h => h) (Or.inl ⟨by rfl, ?_⟩) ?_ ?_
            rotate_left
            · intro w'
              go_simp
              with_reducible rfl
            rotate_left
            · simp only [Act.put, List.setIfInBounds_toArray, List.set_cons_zero, List.set_cons_succ, i64_w, i32_w]
              rfl
            refine one_ (i := 9) (N := some 49) #[true, true, true, true, true, true, true, true, true, true, false, false] rfl rfl (one_of HT_.out (by kernel_rfl)) (by decide) (fun K hK => ?_)
            refine goes_ Tryz.func19 (by kernel_rfl) rfl #[] (by rfl) rfl rfl eqA ?_
            with_reducible refine (sure_calls  t248 _ A26.out).mono ?_
            rintro e w44 ⟨rfl, hb⟩
            refine ⟨_, rfl, ?_⟩
            have n0_ := asd (Kd.R_below (rUp HO219.out) hb)
            have n1_ := asd (Kd.R_below (rUp HO224.out) hb)
            have n2_ := asd (Kd.R_below (rUp HO229.out) hb)
            have n3_ := asd (Kd.R_below (rUp HO235.out) hb)
            have n4_ := asd (Kd.R_below (rUp HO240.out) hb)
            have n5_ := asd (Kd.R_below (rUp HO245.out) hb)
            have n6_ := asd (blk_below (g := gb231) (o := .cells #[.bool t226, .slice Ao34 t227.length co34, .int .i64 t230] 41 (0, 0)) (blkU BK231.out) hb)
            have n7_ := asd (below_step (by repeat (first | (with_reducible first | exact HB.out | apply below_alloc | apply pw_below_drewN | apply below_drew1 | refine below_set ?_ GE231.out) | exact HB.out)) hb)
            clear HO219
            clear HO224
            clear HO229
            clear HO235
            clear HO240
            clear HO245
            clear BK231
            clear HB
            have HO219 := n0_
            have HO224 := n1_
            have HO229 := n2_
            have HO235 := n3_
            have HO240 := n4_
            have HO245 := n5_
            have BK231 := n6_
            have HB := n7_
            clear n0_ n1_ n2_ n3_ n4_ n5_ n6_ n7_
            (try clear hb)
            (try clear hb2)
            (try clear hk)
            (try clear hi)
            refine hK.out _ _ ⟨(blk_cell BK231.out 0).trans rfl, (blk_cell BK231.out 1).trans rfl, (blk_cell BK231.out 2).trans rfl⟩ (fun hHeld => ?_)
            clear hK K
            refine norm_ (a' := ?_) ?_ ?_
            rotate_left
            · show Act.put _ (some 49) _ = _
              simp only [Act.put, List.setIfInBounds_toArray, List.set_cons_zero, List.set_cons_succ, i64_w, i32_w]
              rfl
            refine pure_ (i := 10) (N := some 50) (v := ?_) (a' := ?_) #[true, true, true, true, true, true, true, true, true, true, true, false] rfl rfl (any_of HT_.out (by kernel_rfl)) (fun _ _ _ h => h) (Or.inl ⟨by rfl, ?_⟩) ?_ ?_
            rotate_left
            · intro w'
              go_simp
              with_reducible rfl
            rotate_left
            · simp only [Act.put, List.setIfInBounds_toArray, List.set_cons_zero, List.set_cons_succ, i64_w, i32_w]
              rfl
            refine pure_ (i := 11) (N := some 4) (v := ?_) (a' := ?_) #[true, true, true, true, true, true, true, true, true, true, true, true] rfl rfl (any_of HT_.out (by kernel_rfl)) (fun _ _ _ h => h) (Or.inl ⟨by rfl, ?_⟩) ?_ ?_
            rotate_left
            · intro w'
              go_simp
              with_reducible rfl
            rotate_left
            · simp only [Act.put, List.setIfInBounds_toArray, List.set_cons_zero, List.set_cons_succ, i64_w, i32_w]
              rfl
            refine done_ (done_of HT_.out (by kernel_rfl)) ?_
            try go_wp2
            go_ret
            exact ⟨eqC, by repeat (first | (with_reducible first | exact HB.out | apply below_alloc | apply pw_below_drewN | apply below_drew1 | refine below_set ?_ GE231.out) | exact HB.out)⟩
          · rw [if_neg c25] at H
            have c25b0 : (t247 == 0) = false := beq_eq_false_iff_ne.mpr c25
            have c25b1 : (t247 != 0) = true := bne_iff_ne.mpr c25
            obtain rfl := Option.some.inj H
            try go_wp2_with (first | ((with_reducible refine gate_callee (f := 24) rfl ?_); refine goesL_ (some 33) rfl rfl Tryz.func24 (by kernel_rfl) rfl #[.float .f64 t209] rfl eqA ?_; (with_reducible refine (cuspref01_Finite.calls t209 true _ A16.out).mono ?_); rintro e w' ⟨rfl, ⟨nd, rfl⟩⟩; refine ⟨_, rfl, ?_⟩; (try (rw [drewN_self wc]; generalize hq_ : World.drewN wc _ = wc; have n0_ : Aside0 (Below w.heap.size w wc) := ⟨by rw [← hq_]; exact hbw⟩; clear HB hq_; have HB := n0_; clear n0_))) | ((with_reducible refine gate_callee (f := 26) rfl ?_); refine goesL_ (some 36) rfl rfl Tryz.func26 (by kernel_rfl) rfl #[.float .f64 a0] rfl eqA ?_; (with_reducible refine (cuspref02_Float.calls kj3 a0 t216 t217 t220 _ A18.out).mono ?_); rintro e w45 ⟨v218, rfl, ho0, hb⟩; refine ⟨_, rfl, ?_⟩; have n0_ := asd (Kd.R_lower ho0 (below_size hbw)); have n1_ := asd (below_step hbw hb); clear HB; have HO219 := n0_; have HB := n1_; clear n0_ n1_; (try clear hb); (try clear hb2); (try clear hk); (try clear hi); (try clear ho0)) | ((with_reducible refine gate_callee (f := 26) rfl ?_); refine goesL_ (some 38) rfl rfl Tryz.func26 (by kernel_rfl) rfl #[.float .f64 a1] rfl eqA ?_; (with_reducible refine (cuspref02_Float.calls kj3 a1 t221 t222 t225 _ A19.out).mono ?_); rintro e w46 ⟨v223, rfl, ho0, hb⟩; refine ⟨_, rfl, ?_⟩; have n0_ := asd (Kd.R_elder' (rUp HO219.out) (Kd.R_base ho0) hb); have n1_ := asd (Kd.R_lower (Kd.R_new' ho0 (Kd.R_lt (rUp HO219.out))) (below_size hbw)); have n2_ := asd (below_step hbw hb); clear HO219; clear HB; have HO219 := n0_; have HO224 := n1_; have HB := n2_; clear n0_ n1_ n2_; (try clear hb); (try clear hb2); (try clear hk); (try clear hi); (try clear ho0); obtain ⟨Ao47, co47, eo47⟩ := Kd.R_slice HO219.out; subst eo47; obtain ⟨Ao48, co48, eo48⟩ := Kd.R_slice HO224.out; subst eo48) | ((with_reducible refine gate_callee (f := 25) rfl ?_); refine goesL_ (some 39) rfl rfl Tryz.func25 (by kernel_rfl) rfl #[.agg #[.bool t216, .slice Ao47 t217.length co47, .int .i64 t220], .agg #[.bool t221, .slice Ao48 t222.length co48, .int .i64 t225]] rfl eqA ?_; (with_reducible refine (cuspref02_Plus.calls t216 _ _ t217 t220 t221 _ _ t222 t225 t226 t227 t230 _ ?side1 ?side2 ?side3 ?side4 A20.out).mono ?_); (case side1 => repeat (first | exact (Kd.R_reads' HO219.out).2.2 | (with_reducible refine Kd.C_alloc ?_ _) | (with_reducible refine Kd.C_drewN ?_ _) | (with_reducible refine Kd.C_drew ?_))); (case side2 => exact (Kd.R_reads' HO219.out).2.1); (case side3 => repeat (first | exact (Kd.R_reads' HO224.out).2.2 | (with_reducible refine Kd.C_alloc ?_ _) | (with_reducible refine Kd.C_drewN ?_ _) | (with_reducible refine Kd.C_drew ?_))); (case side4 => exact (Kd.R_reads' HO224.out).2.1); rintro e w49 ⟨v228, rfl, ho0, hb⟩; refine ⟨_, rfl, ?_⟩; have n0_ := asd (Kd.R_elder' (rUp HO219.out) (Kd.R_base ho0) hb); have n1_ := asd (Kd.R_elder' (rUp HO224.out) (Kd.R_base ho0) hb); have n2_ := asd (Kd.R_lower (Kd.R_new' (Kd.R_new' ho0 (Kd.R_lt (rUp HO219.out))) (Kd.R_lt (rUp HO224.out))) (below_size hbw)); have n3_ := asd (below_step hbw hb); clear HO219; clear HO224; clear HB; have HO219 := n0_; have HO224 := n1_; have HO229 := n2_; have HB := n3_; clear n0_ n1_ n2_ n3_; (try clear hb); (try clear hb2); (try clear hk); (try clear hi); (try clear ho0)) | ((with_reducible refine gate_dst (N := 7) rfl ?_); refine box_event ?hg (N := 7) ?hd (cs := #[.bool false, .slice none 0 0, .int .i64 0]) (t := 41) ?hr ?_; (case hd => rfl); (case hg => rfl); (case hr => first | (go_simp; done) | (go_simp; rfl)); intro gb231 hg w50 hbox hb; have n0_ := asd (Kd.R_below (rUp HO219.out) hb); have n1_ := asd (Kd.R_below (rUp HO224.out) hb); have n2_ := asd (Kd.R_below (rUp HO229.out) hb); have n3_ := asd (below_step hbw hb); have n4_ := asd (hbox); have n5_ := asd ((by rw [hg]; exact (below_size hbw) : w.heap.size ≤ gb231)); have n6_ := asd ((by rw [hg]; exact (below_size hbw) : w.heap.size ≤ gb231)); clear HO219; clear HO224; clear HO229; clear HB; have HO219 := n0_; have HO224 := n1_; have HO229 := n2_; have HB := n3_; have BK231 := n4_; have GW231 := n5_; have GE231 := n6_; clear n0_ n1_ n2_ n3_ n4_ n5_ n6_; clear hb hbox hg; have hcz51_0 : w50.cell? ⟨gb231, 0, none⟩ = some (.bool false) := (blk_cell BK231.out 0).trans rfl; have hcz51_1 : w50.cell? ⟨gb231, 1, none⟩ = some (.slice none 0 0) := (blk_cell BK231.out 1).trans rfl; have hcz51_2 : w50.cell? ⟨gb231, 2, none⟩ = some (.int .i64 0) := (blk_cell BK231.out 2).trans rfl; have hfz51_0 := blk_frozen BK231.out 0; have hfz51_1 := blk_frozen BK231.out 1; have hfz51_2 := blk_frozen BK231.out 2; obtain ⟨Ao52, co52, eo52⟩ := Kd.R_slice HO229.out; subst eo52))
            have n0_ : Aside0 (Kd.R (Kd.int .u32) 83 (((w50.setCell ⟨gb231, 0, none⟩ (.bool t226)).setCell ⟨gb231, 1, none⟩ (.slice Ao52 t227.length co52)).setCell ⟨gb231, 2, none⟩ (.int .i64 t230)) w.heap.size (fun k_ => some k_ ≠ (.slice Ao48 t222.length co48 : Value).ownBlock ∧ some k_ ≠ (.slice Ao52 t227.length co52 : Value).ownBlock) (.slice Ao47 t217.length co47) t217) := ⟨by (with_reducible repeat (first | apply Kd.R_alloc | apply Kd.R_drewN | apply Kd.R_drew)); exact Kd.R_mono (Kd.R_far (p := ⟨gb231, 2, none⟩) (Kd.R_far (p := ⟨gb231, 1, none⟩) (Kd.R_far (p := ⟨gb231, 0, none⟩) (Kd.R_types HO219.out BK231.out (by decide)) (fun _ hk => hk.2) (.bool t226)) (fun _ hk => hk.2) (.slice Ao52 t227.length co52)) (fun _ hk => hk.2) (.int .i64 t230)) (fun _ hk => ⟨hk.1.1.2, hk.1.2⟩)⟩
            have n1_ : Aside0 (Kd.R (Kd.int .u32) 83 (((w50.setCell ⟨gb231, 0, none⟩ (.bool t226)).setCell ⟨gb231, 1, none⟩ (.slice Ao52 t227.length co52)).setCell ⟨gb231, 2, none⟩ (.int .i64 t230)) w.heap.size (fun k_ => some k_ ≠ (.slice Ao47 t217.length co47 : Value).ownBlock ∧ some k_ ≠ (.slice Ao52 t227.length co52 : Value).ownBlock) (.slice Ao48 t222.length co48) t222) := ⟨by (with_reducible repeat (first | apply Kd.R_alloc | apply Kd.R_drewN | apply Kd.R_drew)); exact Kd.R_mono (Kd.R_far (p := ⟨gb231, 2, none⟩) (Kd.R_far (p := ⟨gb231, 1, none⟩) (Kd.R_far (p := ⟨gb231, 0, none⟩) (Kd.R_types HO224.out BK231.out (by decide)) (fun _ hk => hk.2) (.bool t226)) (fun _ hk => hk.2) (.slice Ao52 t227.length co52)) (fun _ hk => hk.2) (.int .i64 t230)) (fun _ hk => ⟨hk.1.1.2, hk.1.2⟩)⟩
            have n2_ : Aside0 (Kd.R (Kd.int .u32) 83 (((w50.setCell ⟨gb231, 0, none⟩ (.bool t226)).setCell ⟨gb231, 1, none⟩ (.slice Ao52 t227.length co52)).setCell ⟨gb231, 2, none⟩ (.int .i64 t230)) w.heap.size (fun k_ => some k_ ≠ (.slice Ao47 t217.length co47 : Value).ownBlock ∧ some k_ ≠ (.slice Ao48 t222.length co48 : Value).ownBlock) (.slice Ao52 t227.length co52) t227) := ⟨by (with_reducible repeat (first | apply Kd.R_alloc | apply Kd.R_drewN | apply Kd.R_drew)); exact Kd.R_mono (Kd.R_far (p := ⟨gb231, 2, none⟩) (Kd.R_far (p := ⟨gb231, 1, none⟩) (Kd.R_far (p := ⟨gb231, 0, none⟩) (Kd.R_types HO229.out BK231.out (by decide)) (fun _ hk => hk.2) (.bool t226)) (fun _ hk => hk.2) (.slice Ao52 t227.length co52)) (fun _ hk => hk.2) (.int .i64 t230)) (fun _ hk => ⟨hk.1.1.2, hk.1.2⟩)⟩
            have n3_ : Aside0 ((((w50.setCell ⟨gb231, 0, none⟩ (.bool t226)).setCell ⟨gb231, 1, none⟩ (.slice Ao52 t227.length co52)).setCell ⟨gb231, 2, none⟩ (.int .i64 t230)).heap[gb231]? = some (.cells #[.bool t226, .slice Ao52 t227.length co52, .int .i64 t230] 41 (0, 0))) := ⟨by (with_reducible repeat (first | refine blk_drewN ?_ _ | refine blk_drew ?_ | refine blk_alloc ?_ _)); refine blk_put (cs := #[.bool t226, .slice Ao52 t227.length co52, .int .i64 0]) ?_ 2 _ rfl; (with_reducible repeat (first | refine blk_drewN ?_ _ | refine blk_drew ?_ | refine blk_alloc ?_ _)); refine blk_put (cs := #[.bool t226, .slice none 0 0, .int .i64 0]) ?_ 1 _ rfl; (with_reducible repeat (first | refine blk_drewN ?_ _ | refine blk_drew ?_ | refine blk_alloc ?_ _)); refine blk_put (cs := #[.bool false, .slice none 0 0, .int .i64 0]) ?_ 0 _ rfl; (with_reducible repeat (first | refine blk_drewN ?_ _ | refine blk_drew ?_ | refine blk_alloc ?_ _)); exact BK231.out⟩
            have n4_ : Aside0 (Below w.heap.size w (((w50.setCell ⟨gb231, 0, none⟩ (.bool t226)).setCell ⟨gb231, 1, none⟩ (.slice Ao52 t227.length co52)).setCell ⟨gb231, 2, none⟩ (.int .i64 t230))) := ⟨by repeat (first | (with_reducible first | exact HB.out | apply below_alloc | apply pw_below_drewN | apply below_drew1 | refine below_set ?_ GE231.out) | exact HB.out)⟩
            (try clear HO219)
            (try clear HO224)
            (try clear HO229)
            (try clear BK231)
            (try clear HB)
            generalize (((w50.setCell ⟨gb231, 0, none⟩ (.bool t226)).setCell ⟨gb231, 1, none⟩ (.slice Ao52 t227.length co52)).setCell ⟨gb231, 2, none⟩ (.int .i64 t230)) = w53 at n0_ n1_ n2_ n3_ n4_ ⊢
            have HO219 := n0_
            have HO224 := n1_
            have HO229 := n2_
            have BK231 := n3_
            have HB := n4_
            clear n0_ n1_ n2_ n3_ n4_
            have n0_ := asd (Kd.R_drew HO219.out)
            have n1_ := asd (Kd.R_drew HO224.out)
            have n2_ := asd (Kd.R_drew HO229.out)
            have n3_ := asd (blk_drew BK231.out)
            have n4_ := asd (below_drew1 HB.out)
            clear HO219
            clear HO224
            clear HO229
            clear BK231
            clear HB
            have HO219 := n0_
            have HO224 := n1_
            have HO229 := n2_
            have BK231 := n3_
            have HB := n4_
            clear n0_ n1_ n2_ n3_ n4_
            refine start_ (n := 12) (S := fun w' => w'.cell? ⟨gb231, 0, none⟩ = some (.bool t226) ∧ w'.cell? ⟨gb231, 1, none⟩ = some (.slice Ao52 t227.length co52) ∧ w'.cell? ⟨gb231, 2, none⟩ = some (.int .i64 t230)) (ds := []) #[false, false, false, false, false, false, false, false, false, false, false, false] (by kernel_rfl) rfl rfl ⟨(blk_cell BK231.out 0).trans rfl, (blk_cell BK231.out 1).trans rfl, (blk_cell BK231.out 2).trans rfl⟩ (fun hHeld => ?_); refine with_tabW cusplaw05_SumsSplit.tab7 cusplaw05_SumsSplit.bits7 (fun HT_ HW_ => ?_)
            generalize w53.drew = w54 at HO219 HO224 HO229 BK231 HB hHeld ⊢
            refine pure_ (i := 1) (N := some 41) (v := ?_) (a' := ?_) #[false, true, false, false, false, false, false, false, false, false, false, false] rfl rfl (any_of HT_.out (by kernel_rfl)) (fun _ _ _ h => h) (Or.inl ⟨by rfl, ?_⟩) ?_ ?_
            rotate_left
            · intro w'
              go_simp
              with_reducible rfl
            rotate_left
            · simp only [Act.put, List.setIfInBounds_toArray, List.set_cons_zero, List.set_cons_succ, i64_w, i32_w]
              rfl
            refine pure_ (i := 3) (N := some 43) (v := ?_) (a' := ?_) #[false, true, false, true, false, false, false, false, false, false, false, false] rfl rfl (any_of HT_.out (by kernel_rfl)) (fun _ _ _ h => h) (Or.inl ⟨by rfl, ?_⟩) ?_ ?_
            rotate_left
            · intro w'
              go_simp
              with_reducible rfl
            rotate_left
            · simp only [Act.put, List.setIfInBounds_toArray, List.set_cons_zero, List.set_cons_succ, i64_w, i32_w]
              rfl
            refine take_ (i := 0) (N := some 40) (v := ?_) (a' := ?_) #[true, true, false, true, false, false, false, false, false, false, false, false] rfl rfl (take_ofW HT_.out HW_.out (by kernel_rfl)) (fun _ _ _ h => h) (Or.inl ⟨by rfl, ?_⟩) hHeld ?_ ?_
            rotate_left
            · rintro w' ⟨s0, s1, s2⟩
              go_simp
              with_reducible rfl
            rotate_left
            · simp only [Act.put, List.setIfInBounds_toArray, List.set_cons_zero, List.set_cons_succ, i64_w, i32_w]
              rfl
            refine one_ (i := 2) (N := some 42) #[true, true, true, true, false, false, false, false, false, false, false, false] rfl rfl (one_of HT_.out (by kernel_rfl)) (by decide) (fun K hK => ?_)
            refine goes_ Tryz.func26 (by kernel_rfl) rfl #[.float .f64 t208] (by rfl) rfl rfl eqA ?_
            with_reducible refine (cuspref02_Float.calls kj3 t208 t232 t233 t236 _ A21.out).mono ?_
            rintro e w55 ⟨v234, rfl, ho0, hb⟩
            refine ⟨_, rfl, ?_⟩
            have n0_ := asd (Kd.R_elder' (rUp HO219.out) (Kd.R_base ho0) hb)
            have n1_ := asd (Kd.R_elder' (rUp HO224.out) (Kd.R_base ho0) hb)
            have n2_ := asd (Kd.R_elder' (rUp HO229.out) (Kd.R_base ho0) hb)
            have n3_ := asd (Kd.R_lower (Kd.R_new' (Kd.R_new' (Kd.R_new' ho0 (Kd.R_lt (rUp HO219.out))) (Kd.R_lt (rUp HO224.out))) (Kd.R_lt (rUp HO229.out))) (below_size (by repeat (first | (with_reducible first | exact HB.out | apply below_alloc | apply pw_below_drewN | apply below_drew1 | refine below_set ?_ GE231.out) | exact HB.out))))
            have n4_ := asd (blk_below (g := gb231) (o := .cells #[.bool t226, .slice Ao52 t227.length co52, .int .i64 t230] 41 (0, 0)) (blkU BK231.out) hb)
            have n5_ := asd (below_step (by repeat (first | (with_reducible first | exact HB.out | apply below_alloc | apply pw_below_drewN | apply below_drew1 | refine below_set ?_ GE231.out) | exact HB.out)) hb)
            clear HO219
            clear HO224
            clear HO229
            clear BK231
            clear HB
            have HO219 := n0_
            have HO224 := n1_
            have HO229 := n2_
            have HO235 := n3_
            have BK231 := n4_
            have HB := n5_
            clear n0_ n1_ n2_ n3_ n4_ n5_
            (try clear hb)
            (try clear hb2)
            (try clear hk)
            (try clear hi)
            (try clear ho0)
            refine hK.out _ _ ⟨(blk_cell BK231.out 0).trans rfl, (blk_cell BK231.out 1).trans rfl, (blk_cell BK231.out 2).trans rfl⟩ (fun hHeld => ?_)
            clear hK K
            refine norm_ (a' := ?_) ?_ ?_
            rotate_left
            · show Act.put _ (some 42) _ = _
              simp only [Act.put, List.setIfInBounds_toArray, List.set_cons_zero, List.set_cons_succ, i64_w, i32_w]
              rfl
            refine one_ (i := 4) (N := some 44) #[true, true, true, true, true, false, false, false, false, false, false, false] rfl rfl (one_of HT_.out (by kernel_rfl)) (by decide) (fun K hK => ?_)
            refine goes_ Tryz.func26 (by kernel_rfl) rfl #[.float .f64 t209] (by rfl) rfl rfl eqA ?_
            with_reducible refine (cuspref02_Float.calls kj3 t209 t237 t238 t241 _ A22.out).mono ?_
            rintro e w56 ⟨v239, rfl, ho0, hb⟩
            refine ⟨_, rfl, ?_⟩
            have n0_ := asd (Kd.R_elder' (rUp HO219.out) (Kd.R_base ho0) hb)
            have n1_ := asd (Kd.R_elder' (rUp HO224.out) (Kd.R_base ho0) hb)
            have n2_ := asd (Kd.R_elder' (rUp HO229.out) (Kd.R_base ho0) hb)
            have n3_ := asd (Kd.R_elder' (rUp HO235.out) (Kd.R_base ho0) hb)
            have n4_ := asd (Kd.R_lower (Kd.R_new' (Kd.R_new' (Kd.R_new' (Kd.R_new' ho0 (Kd.R_lt (rUp HO219.out))) (Kd.R_lt (rUp HO224.out))) (Kd.R_lt (rUp HO229.out))) (Kd.R_lt (rUp HO235.out))) (below_size (by repeat (first | (with_reducible first | exact HB.out | apply below_alloc | apply pw_below_drewN | apply below_drew1 | refine below_set ?_ GE231.out) | exact HB.out))))
            have n5_ := asd (blk_below (g := gb231) (o := .cells #[.bool t226, .slice Ao52 t227.length co52, .int .i64 t230] 41 (0, 0)) (blkU BK231.out) hb)
            have n6_ := asd (below_step (by repeat (first | (with_reducible first | exact HB.out | apply below_alloc | apply pw_below_drewN | apply below_drew1 | refine below_set ?_ GE231.out) | exact HB.out)) hb)
            clear HO219
            clear HO224
            clear HO229
            clear HO235
            clear BK231
            clear HB
            have HO219 := n0_
            have HO224 := n1_
            have HO229 := n2_
            have HO235 := n3_
            have HO240 := n4_
            have BK231 := n5_
            have HB := n6_
            clear n0_ n1_ n2_ n3_ n4_ n5_ n6_
            (try clear hb)
            (try clear hb2)
            (try clear hk)
            (try clear hi)
            (try clear ho0)
            obtain ⟨Ao57, co57, eo57⟩ := Kd.R_slice HO235.out
            (first | subst eo57 | (injection eo57 with f1_ f2_ f3_; have f4_ := f1_.symm; have f5_ := f3_.symm; clear f1_ f2_ f3_; subst f4_; subst f5_))
            obtain ⟨Ao58, co58, eo58⟩ := Kd.R_slice HO240.out
            (first | subst eo58 | (injection eo58 with f1_ f2_ f3_; have f4_ := f1_.symm; have f5_ := f3_.symm; clear f1_ f2_ f3_; subst f4_; subst f5_))
            refine hK.out _ _ ⟨(blk_cell BK231.out 0).trans rfl, (blk_cell BK231.out 1).trans rfl, (blk_cell BK231.out 2).trans rfl⟩ (fun hHeld => ?_)
            clear hK K
            refine norm_ (a' := ?_) ?_ ?_
            rotate_left
            · show Act.put _ (some 44) _ = _
              simp only [Act.put, List.setIfInBounds_toArray, List.set_cons_zero, List.set_cons_succ, i64_w, i32_w]
              rfl
            refine one_ (i := 5) (N := some 45) #[true, true, true, true, true, true, false, false, false, false, false, false] rfl rfl (one_of HT_.out (by kernel_rfl)) (by decide) (fun K hK => ?_)
            refine goes_ Tryz.func25 (by kernel_rfl) rfl #[.agg #[.bool t232, .slice Ao57 t233.length co57, .int .i64 t236], .agg #[.bool t237, .slice Ao58 t238.length co58, .int .i64 t241]] (by rfl) rfl rfl eqA ?_
            with_reducible refine (cuspref02_Plus.calls t232 _ _ t233 t236 t237 _ _ t238 t241 t242 t243 t246 _ ?side1 ?side2 ?side3 ?side4 A23.out).mono ?_
            (case side1 => repeat (first | exact (Kd.R_reads' HO235.out).2.2 | (with_reducible refine Kd.C_alloc ?_ _) | (with_reducible refine Kd.C_drewN ?_ _) | (with_reducible refine Kd.C_drew ?_)))
            (case side2 => exact (Kd.R_reads' HO235.out).2.1)
            (case side3 => repeat (first | exact (Kd.R_reads' HO240.out).2.2 | (with_reducible refine Kd.C_alloc ?_ _) | (with_reducible refine Kd.C_drewN ?_ _) | (with_reducible refine Kd.C_drew ?_)))
            (case side4 => exact (Kd.R_reads' HO240.out).2.1)
            rintro e w59 ⟨v244, rfl, ho0, hb⟩
            refine ⟨_, rfl, ?_⟩
            have n0_ := asd (Kd.R_elder' (rUp HO219.out) (Kd.R_base ho0) hb)
            have n1_ := asd (Kd.R_elder' (rUp HO224.out) (Kd.R_base ho0) hb)
            have n2_ := asd (Kd.R_elder' (rUp HO229.out) (Kd.R_base ho0) hb)
            have n3_ := asd (Kd.R_elder' (rUp HO235.out) (Kd.R_base ho0) hb)
            have n4_ := asd (Kd.R_elder' (rUp HO240.out) (Kd.R_base ho0) hb)
            have n5_ := asd (Kd.R_lower (Kd.R_new' (Kd.R_new' (Kd.R_new' (Kd.R_new' (Kd.R_new' ho0 (Kd.R_lt (rUp HO219.out))) (Kd.R_lt (rUp HO224.out))) (Kd.R_lt (rUp HO229.out))) (Kd.R_lt (rUp HO235.out))) (Kd.R_lt (rUp HO240.out))) (below_size (by repeat (first | (with_reducible first | exact HB.out | apply below_alloc | apply pw_below_drewN | apply below_drew1 | refine below_set ?_ GE231.out) | exact HB.out))))
            have n6_ := asd (blk_below (g := gb231) (o := .cells #[.bool t226, .slice Ao52 t227.length co52, .int .i64 t230] 41 (0, 0)) (blkU BK231.out) hb)
            have n7_ := asd (below_step (by repeat (first | (with_reducible first | exact HB.out | apply below_alloc | apply pw_below_drewN | apply below_drew1 | refine below_set ?_ GE231.out) | exact HB.out)) hb)
            clear HO219
            clear HO224
            clear HO229
            clear HO235
            clear HO240
            clear BK231
            clear HB
            have HO219 := n0_
            have HO224 := n1_
            have HO229 := n2_
            have HO235 := n3_
            have HO240 := n4_
            have HO245 := n5_
            have BK231 := n6_
            have HB := n7_
            clear n0_ n1_ n2_ n3_ n4_ n5_ n6_ n7_
            (try clear hb)
            (try clear hb2)
            (try clear hk)
            (try clear hi)
            (try clear ho0)
            obtain ⟨Ao60, co60, eo60⟩ := Kd.R_slice HO245.out
            (first | subst eo60 | (injection eo60 with f1_ f2_ f3_; have f4_ := f1_.symm; have f5_ := f3_.symm; clear f1_ f2_ f3_; subst f4_; subst f5_))
            refine hK.out _ _ ⟨(blk_cell BK231.out 0).trans rfl, (blk_cell BK231.out 1).trans rfl, (blk_cell BK231.out 2).trans rfl⟩ (fun hHeld => ?_)
            clear hK K
            refine norm_ (a' := ?_) ?_ ?_
            rotate_left
            · show Act.put _ (some 45) _ = _
              simp only [Act.put, List.setIfInBounds_toArray, List.set_cons_zero, List.set_cons_succ, i64_w, i32_w]
              rfl
            refine one_ (i := 6) (N := some 46) #[true, true, true, true, true, true, true, false, false, false, false, false] rfl rfl (one_of HT_.out (by kernel_rfl)) (by decide) (fun K hK => ?_)
            refine goes_ Tryz.func27 (by kernel_rfl) rfl #[.agg #[.bool t226, .slice Ao52 t227.length co52, .int .i64 t230], .agg #[.bool t242, .slice Ao60 t243.length co60, .int .i64 t246]] (by rfl) rfl rfl eqA ?_
            with_reducible refine (cuspref02_Order.calls kj3 t226 _ _ t227 t230 t242 _ _ t243 t246 t247 _ ?side1 ?side2 ?side3 ?side4 A24.out).mono ?_
            (case side1 => repeat (first | exact (Kd.R_reads' HO229.out).2.2 | (with_reducible refine Kd.C_alloc ?_ _) | (with_reducible refine Kd.C_drewN ?_ _) | (with_reducible refine Kd.C_drew ?_)))
            (case side2 => exact (Kd.R_reads' HO229.out).2.1)
            (case side3 => repeat (first | exact (Kd.R_reads' HO245.out).2.2 | (with_reducible refine Kd.C_alloc ?_ _) | (with_reducible refine Kd.C_drewN ?_ _) | (with_reducible refine Kd.C_drew ?_)))
            (case side4 => exact (Kd.R_reads' HO245.out).2.1)
            rintro e w61 ⟨rfl, hb⟩
            refine ⟨_, rfl, ?_⟩
            have n0_ := asd (Kd.R_below (rUp HO219.out) hb)
            have n1_ := asd (Kd.R_below (rUp HO224.out) hb)
            have n2_ := asd (Kd.R_below (rUp HO229.out) hb)
            have n3_ := asd (Kd.R_below (rUp HO235.out) hb)
            have n4_ := asd (Kd.R_below (rUp HO240.out) hb)
            have n5_ := asd (Kd.R_below (rUp HO245.out) hb)
            have n6_ := asd (blk_below (g := gb231) (o := .cells #[.bool t226, .slice Ao52 t227.length co52, .int .i64 t230] 41 (0, 0)) (blkU BK231.out) hb)
            have n7_ := asd (below_step (by repeat (first | (with_reducible first | exact HB.out | apply below_alloc | apply pw_below_drewN | apply below_drew1 | refine below_set ?_ GE231.out) | exact HB.out)) hb)
            clear HO219
            clear HO224
            clear HO229
            clear HO235
            clear HO240
            clear HO245
            clear BK231
            clear HB
            have HO219 := n0_
            have HO224 := n1_
            have HO229 := n2_
            have HO235 := n3_
            have HO240 := n4_
            have HO245 := n5_
            have BK231 := n6_
            have HB := n7_
            clear n0_ n1_ n2_ n3_ n4_ n5_ n6_ n7_
            (try clear hb)
            (try clear hb2)
            (try clear hk)
            (try clear hi)
            refine hK.out _ _ ⟨(blk_cell BK231.out 0).trans rfl, (blk_cell BK231.out 1).trans rfl, (blk_cell BK231.out 2).trans rfl⟩ (fun hHeld => ?_)
            clear hK K
            refine norm_ (a' := ?_) ?_ ?_
            rotate_left
            · show Act.put _ (some 46) _ = _
              simp only [Act.put, List.setIfInBounds_toArray, List.set_cons_zero, List.set_cons_succ, i64_w, i32_w]
              rfl
            refine pure_ (i := 7) (N := some 47) (v := ?_) (a' := ?_) #[true, true, true, true, true, true, true, true, false, false, false, false] rfl rfl (any_of HT_.out (by kernel_rfl)) (fun _ _ _ h => h) (Or.inl ⟨by rfl, ?_⟩) ?_ ?_
            rotate_left
            · intro w'
              go_simp
              with_reducible rfl
            rotate_left
            · simp only [Act.put, List.setIfInBounds_toArray, List.set_cons_zero, List.set_cons_succ, i64_w, i32_w]
              rfl
            refine pure_ (i := 8) (N := some 48) (v := ?_) (a' := ?_) #[true, true, true, true, true, true, true, true, true, false, false, false] rfl rfl (any_of HT_.out (by kernel_rfl)) (fun _ _ _ h => h) (Or.inl ⟨by rfl, ?_⟩) ?_ ?_
            rotate_left
            · intro w'
              go_simp
              with_reducible rfl
            rotate_left
            · simp only [Act.put, List.setIfInBounds_toArray, List.set_cons_zero, List.set_cons_succ, i64_w, i32_w]
              rfl
            refine pure_ (i := 9) (N := some 49) (v := undef) (a' := ?_) #[true, true, true, true, true, true, true, true, true, true, false, false] rfl rfl (any_of HT_.out (by kernel_rfl)) (fun _ _ _ h => h) (Or.inr ⟨by rfl, rfl⟩) ?_ ?_
            rotate_left
            · simp only [Act.put, List.setIfInBounds_toArray, List.set_cons_zero, List.set_cons_succ, i64_w, i32_w]
              rfl
            refine pure_ (i := 10) (N := some 50) (v := ?_) (a' := ?_) #[true, true, true, true, true, true, true, true, true, true, true, false] rfl rfl (any_of HT_.out (by kernel_rfl)) (fun _ _ _ h => h) (Or.inl ⟨by rfl, ?_⟩) ?_ ?_
            rotate_left
            · intro w'
              go_simp
              with_reducible rfl
            rotate_left
            · simp only [Act.put, List.setIfInBounds_toArray, List.set_cons_zero, List.set_cons_succ, i64_w, i32_w]
              rfl
            refine pure_ (i := 11) (N := some 4) (v := ?_) (a' := ?_) #[true, true, true, true, true, true, true, true, true, true, true, true] rfl rfl (any_of HT_.out (by kernel_rfl)) (fun _ _ _ h => h) (Or.inl ⟨by rfl, ?_⟩) ?_ ?_
            rotate_left
            · intro w'
              go_simp
              with_reducible rfl
            rotate_left
            · simp only [Act.put, List.setIfInBounds_toArray, List.set_cons_zero, List.set_cons_succ, i64_w, i32_w]
              rfl
            refine done_ (done_of HT_.out (by kernel_rfl)) ?_
            try go_wp2
            go_ret
            exact ⟨eqC, by repeat (first | (with_reducible first | exact HB.out | apply below_alloc | apply pw_below_drewN | apply below_drew1 | refine below_set ?_ GE231.out) | exact HB.out)⟩
        · replace c17 := Bool.eq_false_iff.mpr c17
          subst c17
          have H1 : (some false) = some r := by rw [if_neg (show ¬ (false = true) by decide)] at H; exact H
          clear H
          have H := H1
          clear H1
          obtain rfl := Option.some.inj H
          go_wp2_with (first | ((with_reducible refine gate_callee (f := 24) rfl ?_); refine goesL_ (some 33) rfl rfl Tryz.func24 (by kernel_rfl) rfl #[.float .f64 t209] rfl eqA ?_; (with_reducible refine (cuspref01_Finite.calls t209 false _ A16.out).mono ?_); rintro e w' ⟨rfl, ⟨nd, rfl⟩⟩; refine ⟨_, rfl, ?_⟩))
          go_ret
          exact ⟨eqC, hbw⟩
theorem split_any (a b : Nat) (ha : a < 18446744073709551616) (hb : b < 18446744073709551616) (w : World) (hL : Laid w) :
    Calls Tryz.prog 6 #[.float .f64 a, .float .f64 b] w fun e w' => e = .returned (.bool true) ∧ Below w.heap.size w w' := by
  obtain ⟨k, hk⟩ := split_rest ha hb
  exact split_go a b ha hb w hL k _ true rfl hk
end Go.Proofs.YthmeocigliephaaGreatDoor.Big
end
