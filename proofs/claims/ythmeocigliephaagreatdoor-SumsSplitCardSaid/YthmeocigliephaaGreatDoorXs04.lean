/- Parts of the proof, behind one another; unused words are left out. -/
import Derived.Test.YthmeocigliephaaGreatDoorXs03
import Derived.ArgAppend
import Derived.Below
import Derived.BigQuiet
import Derived.Deep.AppendLies
import Derived.Deep.CutBlock
import Derived.Deep.DeepCutAuto
import Derived.Deep.Draws
import Derived.Deep.LoopGhost
import Derived.Deep.OwnRows
import Derived.Deep.QuietTactic
import Derived.Deep.RegionHeld3
import Derived.KernelRfl
import Derived.Laws.BitsLemmas
import Derived.Laws.BytesArg
import Derived.Laws.IdiomCopy
import Derived.Laws.MakeOwn
import Derived.Laws.OwnMore
import Derived.Laws.Rows
import Derived.Laws.Slices
import Derived.Lib.AppendStr
import Derived.Lib.ConvBytes
import Derived.Maps.AppendAt
import Derived.OrdersHeld
import Derived.OwnWalk
import Derived.RowKit
import Derived.RowKit3
import Derived.Tactics
import Derived.WalkKit
import Derived.WideLaws
import Derived.Test.YthmeocigliephaaGreatDoorProg
set_option linter.unusedVariables false
set_option linter.unusedSimpArgs false
set_option linter.unusedSectionVars false
set_option exponentiation.threshold 100000
set_option maxRecDepth 100000
set_option maxHeartbeats 8000000
open Go.RowKit Go.Proofs.YthmeocigliephaaGreatDoorW.PrintWords Go.Proofs.YthmeocigliephaaGreatDoorW.PrintLast Go.Proofs.YthmeocigliephaaGreatDoorW.PrintMore
section
namespace Go.Proofs.YthmeocigliephaaGreatDoor.PSu
attribute [local go_sem] f64bits_run f64from_run run_float_some max2_int min2_int max_two min_two max_three min_three max_four min_four
def cuspref03_R.f (a0_0 : Bool) (l0_1 : List Int) (a0_2 : Int) (a1 : Int) (a2 : Nat) : Option (Nat) := (cuspref02_Sgn.f a0_0 l0_1 a0_2).bind fun t295 => (if t295 = 0 then (some a2) else ((cuspref02_To.f a0_0 l0_1 a0_2 a1).bind fun t296 => (some t296)))
def cuspref03_Valid.f (a0 : Int) : Option (Int) := if a0 < 1 then (some 1) else (if a0 > 3 then (some 1) else (some 0))
def cuspref01_IsInf.f (a0 : Nat) : Option (Bool) := (cuspref01_mag.f a0).bind fun t297 => (some (t297 == 9218868437227405312))
def cuspref05_Fault.l0 : Nat → List Nat → Int → Int → Option (Int)
 | 0, _, _, _ => none
 | k + 1, x0, x3, x4 => if x4 < (x0.length : Int) then (if 0 ≤ x4 then ((cuspref01_IsNaN.f (rdOf (0 : Nat) x0 x4)).bind fun t299 => (if t299 = true then (some 4) else ((cuspref01_IsInf.f (rdOf (0 : Nat) x0 x4)).bind fun t301 => (if t301 = true then (cuspref05_Fault.l0 k x0 5 (wrap64 (x4 + 1))) else (cuspref05_Fault.l0 k x0 x3 (wrap64 (x4 + 1))))))) else (none)) else (some x3)
def cuspref05_Fault.f (k : Nat) (l0 : List Nat) : Option (Int) := if (l0.length : Int) > 65536 then (some 2) else (cuspref05_Fault.l0 k l0 0 0)
def cuspref01_IsZero.f (a0 : Nat) : Option (Bool) := (cuspref01_mag.f a0).bind fun t302 => (some (t302 == 0))
def cuspref01_Neg.f (a0 : Nat) : Option (Bool) := (cuspref01_Bits.f a0).bind fun t303 => (some ((t303 / 9223372036854775808) == 1))
def cuspref02_twin.f (a0_0 : Bool) (l0_1 : List Int) (a0_2 : Int) : Option (Bool × List Int × Int) := if ([] : List Int).length + l0_1.length < 35184372088832 then (some (a0_0, (([] : List Int) ++ l0_1), a0_2)) else (none)
theorem cuspref02_twin.calls (a0_0 : Bool) (A0_1 : Option Addr) (c0_1 : Nat) (l0_1 : List Int) (a0_2 : Int) (r1 : Bool) (r2 : List Int) (r3 : Int) (w : World) (hr0_1 : Kd.C (Kd.int .u32) w A0_1 l0_1.length l0_1) (hc0_1 : l0_1.length ≤ c0_1) (h : cuspref02_twin.f a0_0 l0_1 a0_2 = some (r1, r2, r3)) :
  Calls Tryz.prog 63 #[.agg #[.bool a0_0, .slice A0_1 l0_1.length c0_1, .int .i64 a0_2]] w fun e w' => ∃ v1_ : Value, e = .returned (.agg #[.bool r1, v1_, .int .i64 r3]) ∧ Kd.R (Kd.int .u32) 83 w' w.heap.size (fun _ => True) v1_ r2 ∧ Below w.heap.size w w' := by
 have hu41 := Tryz.underlying41
 have HR0_1 := asd hr0_1
 have HC0_1 := asd hc0_1
 clear hr0_1 hc0_1
 have HB := asd (Below.refl w.heap.size w)
 have H : (if ([] : List Int).length + l0_1.length < 35184372088832 then (some (a0_0, (([] : List Int) ++ l0_1), a0_2)) else (none)) = some (r1, r2, r3) := h
 clear h
 by_cases c2 : ([] : List Int).length + l0_1.length < 35184372088832
 ·rw [if_pos c2] at H
  have LMc2 := asd c2
  clear c2
  obtain ⟨y306, hy306⟩ : ∃ y_ : List Int, y_ = (([] : List Int) ++ l0_1) := ⟨_, rfl⟩
  replace H : (some (a0_0, y306, a0_2)) = some (r1, r2, r3) := by first | (rw [hy306]; with_reducible exact H) | (have H2_ := (Option.bind_some _ _).symm.trans H; rw [hy306]; with_reducible exact H2_) | (have H2_ := (Option.bind_some _ _).symm.trans H; with_reducible exact H2_) | with_reducible exact H | (rw [hy306]; exact H) | exact H
  have Ny306 := asd hy306
  clear hy306
  simp only [Option.some.injEq, Prod.mk.injEq] at H
  obtain ⟨rfl, rfl, rfl⟩ := H
  go_enter Tryz.func63, Tryz.ntmps63
  go_wp2_with (first | ((with_reducible refine gate_dst (N := 1) rfl ?_); refine box_event ?hg (N := 1) ?hd (cs := #[.bool a0_0, .slice A0_1 l0_1.length c0_1, .int .i64 a0_2]) (t := 41) ?hr ?_; (case hd => rfl); (case hg => rfl); (case hr => first | (go_simp; done) | (go_simp; rfl)); intro gb304 hg w3 hbox hb; have n0_ := asd (below_step hbw hb); have n1_ := asd (hbox); have n2_ := asd ((by rw [hg]; exact (below_size hbw) : w.heap.size ≤ gb304)); have n3_ := asd ((by rw [hg]; exact (below_size hbw) : w.heap.size ≤ gb304)); clear HB; have HB := n0_; have BK304 := n1_; have GW304 := n2_; have GE304 := n3_; clear n0_ n1_ n2_ n3_; clear hb hbox hg) | ((with_reducible refine gate_dst (N := 2) rfl ?_); refine box_event ?hg (N := 2) ?hd (cs := #[.bool false, .slice none 0 0, .int .i64 0]) (t := 41) ?hr ?_; (case hd => rfl); (case hg => rfl); (case hr => first | (go_simp; done) | (go_simp; rfl)); intro gb305 hg w4 hbox hb; have n0_ := asd (blk_below (g := gb304) (o := .cells #[.bool a0_0, .slice A0_1 l0_1.length c0_1, .int .i64 a0_2] 41 (0, 0)) (blkU BK304.out) hb); have n1_ := asd (below_step (by repeat (first | (with_reducible first | exact HB.out | apply below_alloc | apply pw_below_drewN | apply below_drew1 | refine below_set ?_ GE304.out) | exact HB.out)) hb); have n2_ := asd (hbox); have n3_ := asd ((by rw [hg]; exact (below_size (by repeat (first | (with_reducible first | exact HB.out | apply below_alloc | apply pw_below_drewN | apply below_drew1 | refine below_set ?_ GE304.out) | exact HB.out))) : w.heap.size ≤ gb305)); have n4_ := asd ((by rw [hg]; exact (below_size (by repeat (first | (with_reducible first | exact HB.out | apply below_alloc | apply pw_below_drewN | apply below_drew1 | refine below_set ?_ GE304.out) | exact HB.out))) : w.heap.size ≤ gb305)); have n5_ := asd ((by rw [hg]; exact Nat.ne_of_lt (blk_lt (g := gb304) (o := .cells #[.bool a0_0, .slice A0_1 l0_1.length c0_1, .int .i64 a0_2] 41 (0, 0)) (blkU BK304.out)) : gb304 ≠ gb305)); have n6_ := asd ((by rw [hg]; exact Nat.ne_of_gt (blk_lt (g := gb304) (o := .cells #[.bool a0_0, .slice A0_1 l0_1.length c0_1, .int .i64 a0_2] 41 (0, 0)) (blkU BK304.out)) : gb305 ≠ gb304)); clear BK304; clear HB; have BK304 := n0_; have HB := n1_; have BK305 := n2_; have GW305 := n3_; have GE305 := n4_; have NB304_305 := n5_; have NB305_304 := n6_; clear n0_ n1_ n2_ n3_ n4_ n5_ n6_; clear hb hbox hg; have hnb5 := NB304_305.out; have hnc5 := NB305_304.out; have hcz6_0 : w4.cell? ⟨gb304, 0, none⟩ = some (.bool a0_0) := (blk_cell BK304.out 0).trans rfl; have hcz6_1 : w4.cell? ⟨gb304, 1, none⟩ = some (.slice A0_1 l0_1.length c0_1) := (blk_cell BK304.out 1).trans rfl; have hcz6_2 : w4.cell? ⟨gb304, 2, none⟩ = some (.int .i64 a0_2) := (blk_cell BK304.out 2).trans rfl; have hfz6_0 := blk_frozen BK304.out 0; have hfz6_1 := blk_frozen BK304.out 1; have hfz6_2 := blk_frozen BK304.out 2) | ((with_reducible refine gate_builtin (b := .append) (xs := #[.tmp 4, .tmp 6]) rfl ?_); at_builtin; refine Kd.R_append_rows (Kd.int .u32) (w0 := w) w.heap.size rfl (.tmp 4) (.tmp 6) 39 83 (.int .u32 0) 4 rfl Tryz.underlying39 info83 rfl (by decide) (by omega) (.slice none 0 0) ([] : List Int) l0_1 _ _ _ (fun _ => True) (fun _ => False) rfl rfl ?aO ?aR (fun _ _ h => h) (fun _ h => h.elim) ?aF ?aB ?aS ?aL ?_; (case aR => repeat (first | exact (Kd.C_below HR0_1.out HB.out) | (with_reducible refine Kd.C_alloc ?_ _) | (with_reducible refine Kd.C_drewN ?_ _) | (with_reducible refine Kd.C_drew ?_))); (case aB => exact (by repeat (first | (with_reducible first | exact HB.out | apply below_alloc | apply pw_below_drewN | apply below_drew1 | refine below_set ?_ GE304.out | refine below_set ?_ GE305.out) | exact HB.out))); (case aF => exact (fun _ _ => trivial)); (case aO => exact ((Kd.R_nil _ _ _ _ (fun _ => True)))); (case aS => exact (below_size (by repeat (first | (with_reducible first | exact HB.out | apply below_alloc | apply pw_below_drewN | apply below_drew1 | refine below_set ?_ GE304.out | refine below_set ?_ GE305.out) | exact HB.out)))); (case aL => have := LMc2.out; omega); intro v307 w7 ho hb hg hat; rw [← Ny306.out] at ho; have n0_ := asd (blk_grown (g := gb304) (o := .cells #[.bool a0_0, .slice A0_1 l0_1.length c0_1, .int .i64 a0_2] 41 (0, 0)) (blkU BK304.out) hg (by simp [Value.ownBlock])); have n1_ := asd (blk_grown (g := gb305) (o := .cells #[.bool false, .slice none 0 0, .int .i64 0] 41 (0, 0)) (blkU BK305.out) hg (by simp [Value.ownBlock])); have n2_ := asd (hb); have n3_ := asd (ho); clear BK304; clear BK305; clear HB; have BK304 := n0_; have BK305 := n1_; have HB := n2_; have HO308 := n3_; clear n0_ n1_ n2_ n3_; clear ho hb hg hat; obtain ⟨Ao8, co8, eo8⟩ := Kd.R_slice HO308.out; subst eo8; have hcz9_0 : w7.cell? ⟨gb304, 0, none⟩ = some (.bool a0_0) := (blk_cell BK304.out 0).trans rfl; have hcz9_1 : w7.cell? ⟨gb304, 1, none⟩ = some (.slice A0_1 l0_1.length c0_1) := (blk_cell BK304.out 1).trans rfl; have hcz9_2 : w7.cell? ⟨gb304, 2, none⟩ = some (.int .i64 a0_2) := (blk_cell BK304.out 2).trans rfl; have hfz9_0 := blk_frozen BK304.out 0; have hfz9_1 := blk_frozen BK304.out 1; have hfz9_2 := blk_frozen BK304.out 2; have hcz10_0 : w7.cell? ⟨gb305, 0, none⟩ = some (.bool false) := (blk_cell BK305.out 0).trans rfl; have hcz10_1 : w7.cell? ⟨gb305, 1, none⟩ = some (.slice none 0 0) := (blk_cell BK305.out 1).trans rfl; have hcz10_2 : w7.cell? ⟨gb305, 2, none⟩ = some (.int .i64 0) := (blk_cell BK305.out 2).trans rfl; have hfz10_0 := blk_frozen BK305.out 0; have hfz10_1 := blk_frozen BK305.out 1; have hfz10_2 := blk_frozen BK305.out 2))
  refine bodyPost_ret (results_cell_row rfl _ _ gb305 41 #[.bool a0_0, .slice Ao8 y306.length co8, .int .i64 a0_2] (0, 0) _ rfl (by (with_reducible repeat (first | refine blk_drewN ?_ _ | refine blk_drew ?_ | refine blk_alloc ?_ _)); refine blk_put (cs := #[.bool a0_0, .slice Ao8 y306.length co8, .int .i64 0]) ?_ 2 _ rfl; (with_reducible repeat (first | refine blk_drewN ?_ _ | refine blk_drew ?_ | refine blk_alloc ?_ _)); refine blk_put (cs := #[.bool a0_0, .slice none 0 0, .int .i64 0]) ?_ 1 _ rfl; (with_reducible repeat (first | refine blk_drewN ?_ _ | refine blk_drew ?_ | refine blk_alloc ?_ _)); refine blk_put (cs := #[.bool false, .slice none 0 0, .int .i64 0]) ?_ 0 _ rfl; (with_reducible repeat (first | refine blk_drewN ?_ _ | refine blk_drew ?_ | refine blk_alloc ?_ _)); refine blk_far ?_ NB305_304.out _; (with_reducible repeat (first | refine blk_drewN ?_ _ | refine blk_drew ?_ | refine blk_alloc ?_ _)); exact BK305.out) Tryz.underlying41 rfl (by kernel_rfl)) rfl ?_
  exact ⟨_, eqC, by (with_reducible repeat (first | apply Kd.R_alloc | apply Kd.R_drewN | apply Kd.R_drew)); exact Kd.R_mono (Kd.R_far (p := ⟨gb305, 2, none⟩) (Kd.R_far (p := ⟨gb305, 1, none⟩) (Kd.R_far (p := ⟨gb305, 0, none⟩) (Kd.R_far (p := ⟨gb304, 1, none⟩) (Kd.R_types (Kd.R_types HO308.out BK304.out (by decide)) BK305.out (by decide)) (fun _ hk => hk.1.2) (.slice Ao8 y306.length co8)) (fun _ hk => hk.2) (.bool a0_0)) (fun _ hk => hk.2) (.slice Ao8 y306.length co8)) (fun _ hk => hk.2) (.int .i64 a0_2)) (fun _ hk => trivial), by repeat (first | (with_reducible first | exact HB.out | apply below_alloc | apply pw_below_drewN | apply below_drew1 | refine below_set ?_ GE304.out | refine below_set ?_ GE305.out) | exact HB.out)⟩
 ·rw [if_neg c2] at H
  exact absurd H (by simp)
mutual
def cuspref02_sum.l0 : Nat → List Int → List Int → List Int → Int → Int → Option (List Int)
 | 0, _, _, _, _, _ => none
 | k + 1, x0, x1, x5, x6, x7 => if x7 < (x0.length : Int) then (cuspref02_sum.j1 k x0 x1 x5 x6 x7 true) else (cuspref02_sum.j1 k x0 x1 x5 x6 x7 (decide (x7 < (x1.length : Int))))
def cuspref02_sum.j1 : Nat → List Int → List Int → List Int → Int → Int → Bool → Option (List Int)
 | 0, _, _, _, _, _, _ => none
 | k + 1, x0, x1, x5, x6, x7, x17 => if x17 = true then (if x7 < (x0.length : Int) then (if 0 ≤ x7 then (if x7 < (x1.length : Int) then (if x5.length < 35184372088832 then (cuspref02_sum.l0 k x0 x1 (x5 ++ [(IntKind.u64.wrap ((IntKind.u64.wrap (x6 + (IntKind.u64.wrap (rd x0 x7)))) + (IntKind.u64.wrap (rd x1 x7)))) % 4294967296]) ((IntKind.u64.wrap ((IntKind.u64.wrap (x6 + (IntKind.u64.wrap (rd x0 x7)))) + (IntKind.u64.wrap (rd x1 x7)))) / 4294967296) (wrap64 (x7 + 1))) else (none)) else (if x5.length < 35184372088832 then (cuspref02_sum.l0 k x0 x1 (x5 ++ [(IntKind.u64.wrap (x6 + (IntKind.u64.wrap (rd x0 x7)))) % 4294967296]) ((IntKind.u64.wrap (x6 + (IntKind.u64.wrap (rd x0 x7)))) / 4294967296) (wrap64 (x7 + 1))) else (none))) else (none)) else (if x7 < (x1.length : Int) then (if 0 ≤ x7 then (if x5.length < 35184372088832 then (cuspref02_sum.l0 k x0 x1 (x5 ++ [(IntKind.u64.wrap (x6 + (IntKind.u64.wrap (rd x1 x7)))) % 4294967296]) ((IntKind.u64.wrap (x6 + (IntKind.u64.wrap (rd x1 x7)))) / 4294967296) (wrap64 (x7 + 1))) else (none)) else (none)) else (if x5.length < 35184372088832 then (cuspref02_sum.l0 k x0 x1 (x5 ++ [(x6) % 4294967296]) (x6 / 4294967296) (wrap64 (x7 + 1))) else (none)))) else (if x6 > 0 then (if x5.length < 35184372088832 then (some (x5 ++ [(x6) % 4294967296])) else (none)) else (some x5))
end
def cuspref02_sum.f (k : Nat) (l0 : List Int) (l1 : List Int) : Option (List Int) := cuspref02_sum.l0 k l0 l1 ([] : List Int) 0 0
theorem cuspref02_sum.calls (k : Nat) (A0 : Option Addr) (c0 : Nat) (l0 : List Int) (A1 : Option Addr) (c1 : Nat) (l1 : List Int) (r : List Int) (w : World) (hr0 : Kd.C (Kd.int .u32) w A0 l0.length l0) (hc0 : l0.length ≤ c0) (hr1 : Kd.C (Kd.int .u32) w A1 l1.length l1) (hc1 : l1.length ≤ c1) (h : cuspref02_sum.f k l0 l1 = some r) :
  Calls Tryz.prog 66 #[.slice A0 l0.length c0, .slice A1 l1.length c1] w fun e w' => ∃ v0_ : Value, e = .returned (v0_) ∧ Kd.R (Kd.int .u32) 83 w' w.heap.size (fun _ => True) v0_ r ∧ Below w.heap.size w w' := by
 have HR0 := asd hr0
 have HC0 := asd hc0
 clear hr0 hc0
 have HR1 := asd hr1
 have HC1 := asd hc1
 clear hr1 hc1
 have HB := asd (Below.refl w.heap.size w)
 have H : (cuspref02_sum.l0 k l0 l1 ([] : List Int) 0 0) = some r := h
 clear h
 have H' := asd H
 clear H
 go_enter Tryz.func66, Tryz.ntmps66
 go_wp2
 go_loopg [5, 6, 7] k (fun kq v5 v6 v7 w' => ∃ (x5_1 : List Int) (x6_1 : Int) (x7_1 : Int), v6 = .int .u64 x6_1 ∧ v7 = .int .i64 x7_1 ∧ Aside0 (cuspref02_sum.l0 kq l0 l1 x5_1 x6_1 x7_1 = some r) ∧ Aside0 (kq ≤ k) ∧ Aside0 (Kd.R (Kd.int .u32) 83 w' w.heap.size (fun _ => True) v5 x5_1) ∧ Aside0 (Below w.heap.size w w'))
 case atStart => exact ⟨(([] : List Int)), (0), (0), eqB, eqB, H', ⟨Nat.le_refl _⟩, ⟨by first | exact Kd.R_nil _ _ _ _ _ | exact Kd.N_nil _ _ _ _ _ | exact Kd.V_nil _ _ _ _ _ | exact Kd.Q_nil _ _ _ _ _ | exact Kd.S_nil _ _ _ _ _⟩, ⟨hbw⟩⟩
 case round =>
  clear H'
  try clear c1
  try clear p2
  obtain ⟨x5_1, x6_1, x7_1, rfl, rfl, HA, HK1, HO_5, HB⟩ := hrel
  cases gk with
  | zero => exact absurd HA.out (by simp [cuspref02_sum.l0])
  | succ k1 =>
   have H := HA.out
   clear HA
   simp only [cuspref02_sum.l0] at H
   have HC3 := asd H
   clear H
   go_upto_region 4 with (fail)
   go_cut [17] (fun v17 wc => ∃ (kq : Nat) (x17_2 : Bool), v17 = .bool x17_2 ∧ Aside0 (cuspref02_sum.j1 kq l0 l1 x5_1 x6_1 x7_1 x17_2 = some r) ∧ Aside0 (kq ≤ k1) ∧ Aside0 (Kd.R (Kd.int .u32) 83 wc w.heap.size (fun _ => True) u5 x5_1) ∧ Aside0 (Below w.heap.size w wc))
   case first =>
    have H := HC3.out
    clear HC3
    by_cases c4 : x7_1 < (l0.length : Int)
    ·rw [if_pos c4] at H
     have c4b0 : decide (x7_1 < (l0.length : Int)) = true := decide_eq_true c4
     clear c4
     (first | rw [c4b0] | (simp only [i64_w, i32_w]; rw [c4b0]) | skip)
     have H' := asd H
     clear H
     go_wp2
     go_meet
     case rel => exact ⟨_, (true), eqB, H', ⟨by have := HK1.out; first | omega | exact Nat.le_refl _⟩, ⟨by (with_reducible repeat (first | apply Kd.R_alloc | apply Kd.R_drewN | apply Kd.R_drew)); exact HO_5.out⟩, ⟨hbw⟩⟩
    ·rw [if_neg c4] at H
     have c4b0 : decide (x7_1 < (l0.length : Int)) = false := decide_eq_false c4
     clear c4
     (first | rw [c4b0] | (simp only [i64_w, i32_w]; rw [c4b0]) | skip)
     have H' := asd H
     clear H
     go_wp2
     go_meet
     case rel => exact ⟨_, (decide (x7_1 < (l1.length : Int))), eqB, H', ⟨by have := HK1.out; first | omega | exact Nat.le_refl _⟩, ⟨by (with_reducible repeat (first | apply Kd.R_alloc | apply Kd.R_drewN | apply Kd.R_drew)); exact HO_5.out⟩, ⟨hbw⟩⟩
   case rest =>
    clear HC3
    try clear c1
    try clear p2
    try clear c4
    try clear c4b0
    try clear p2
    obtain ⟨kq, x17_2, rfl, HA, HJ2, HO_5, HB⟩ := hcut
    cases kq with
    | zero => exact absurd HA.out (by simp [cuspref02_sum.j1])
    | succ kj2 =>
     have H := HA.out
     clear HA
     simp only [cuspref02_sum.j1] at H
     by_cases c5 : x17_2 = true
     ·subst c5
      have H1 : (if x7_1 < (l0.length : Int) then (if 0 ≤ x7_1 then (if x7_1 < (l1.length : Int) then (if x5_1.length < 35184372088832 then (cuspref02_sum.l0 kj2 l0 l1 (x5_1 ++ [(IntKind.u64.wrap ((IntKind.u64.wrap (x6_1 + (IntKind.u64.wrap (rd l0 x7_1)))) + (IntKind.u64.wrap (rd l1 x7_1)))) % 4294967296]) ((IntKind.u64.wrap ((IntKind.u64.wrap (x6_1 + (IntKind.u64.wrap (rd l0 x7_1)))) + (IntKind.u64.wrap (rd l1 x7_1)))) / 4294967296) (wrap64 (x7_1 + 1))) else (none)) else (if x5_1.length < 35184372088832 then (cuspref02_sum.l0 kj2 l0 l1 (x5_1 ++ [(IntKind.u64.wrap (x6_1 + (IntKind.u64.wrap (rd l0 x7_1)))) % 4294967296]) ((IntKind.u64.wrap (x6_1 + (IntKind.u64.wrap (rd l0 x7_1)))) / 4294967296) (wrap64 (x7_1 + 1))) else (none))) else (none)) else (if x7_1 < (l1.length : Int) then (if 0 ≤ x7_1 then (if x5_1.length < 35184372088832 then (cuspref02_sum.l0 kj2 l0 l1 (x5_1 ++ [(IntKind.u64.wrap (x6_1 + (IntKind.u64.wrap (rd l1 x7_1)))) % 4294967296]) ((IntKind.u64.wrap (x6_1 + (IntKind.u64.wrap (rd l1 x7_1)))) / 4294967296) (wrap64 (x7_1 + 1))) else (none)) else (none)) else (if x5_1.length < 35184372088832 then (cuspref02_sum.l0 kj2 l0 l1 (x5_1 ++ [(x6_1) % 4294967296]) (x6_1 / 4294967296) (wrap64 (x7_1 + 1))) else (none)))) = some r := by rw [if_pos rfl] at H; exact H
      clear H
      have H := H1
      clear H1
      by_cases c6 : x7_1 < (l0.length : Int)
      ·rw [if_pos c6] at H
       have c6b0 : decide (x7_1 < (l0.length : Int)) = true := decide_eq_true c6
       clear c6
       by_cases c7 : 0 ≤ x7_1
       ·rw [if_pos c7] at H
        have c7b0 : decide (0 ≤ x7_1) = true := decide_eq_true c7
        clear c7
        by_cases c8 : x7_1 < (l1.length : Int)
        ·rw [if_pos c8] at H
         have c8b0 : decide (x7_1 < (l1.length : Int)) = true := decide_eq_true c8
         clear c8
         by_cases c9 : x5_1.length < 35184372088832
         ·rw [if_pos c9] at H
          have LMc9 := asd c9
          clear c9
          obtain ⟨y314, hy314⟩ : ∃ y_ : List Int, y_ = (x5_1 ++ [(IntKind.u64.wrap ((IntKind.u64.wrap (x6_1 + (IntKind.u64.wrap (rd l0 x7_1)))) + (IntKind.u64.wrap (rd l1 x7_1)))) % 4294967296]) := ⟨_, rfl⟩
          replace H : (cuspref02_sum.l0 kj2 l0 l1 y314 ((IntKind.u64.wrap ((IntKind.u64.wrap (x6_1 + (IntKind.u64.wrap (rd l0 x7_1)))) + (IntKind.u64.wrap (rd l1 x7_1)))) / 4294967296) (wrap64 (x7_1 + 1))) = some r := by first | (rw [hy314]; with_reducible exact H) | (have H2_ := (Option.bind_some _ _).symm.trans H; rw [hy314]; with_reducible exact H2_) | (have H2_ := (Option.bind_some _ _).symm.trans H; with_reducible exact H2_) | with_reducible exact H | (rw [hy314]; exact H) | exact H
          have Ny314 := asd hy314
          clear hy314
          have H' := asd H
          clear H
          have p312 : 0 ≤ (x7_1 : Int) := of_decide_eq_true (by first | (with_reducible assumption) | assumption)
          have q312 : x7_1 < (l0.length : Int) := of_decide_eq_true (by first | (with_reducible assumption) | assumption)
          obtain ⟨ad312, e312, hx312_0⟩ := Kd.at_int HR0.out x7_1 p312 q312
          cases e312
          replace hx312_0 := (HB.out.cell (World.block_lt_of_cell? w _ hx312_0)).trans hx312_0
          replace p312 := eq_true p312
          replace q312 := eq_true q312
          have p313 : 0 ≤ (x7_1 : Int) := of_decide_eq_true (by first | (with_reducible assumption) | assumption)
          have q313 : x7_1 < (l1.length : Int) := of_decide_eq_true (by first | (with_reducible assumption) | assumption)
          obtain ⟨ad313, e313, hx313_0⟩ := Kd.at_int HR1.out x7_1 p313 q313
          cases e313
          replace hx313_0 := (HB.out.cell (World.block_lt_of_cell? w _ hx313_0)).trans hx313_0
          replace p313 := eq_true p313
          replace q313 := eq_true q313
          go_wp2_with (first | ((with_reducible refine gate_builtin (b := .append) (xs := #[.tmp 42, .tmp 45]) rfl ?_); (try (refine gate_guard (by rfl) ?_; dsimp only)); at_builtin; refine Kd.R_append (Kd.int .u32) (w0 := w) w.heap.size rfl (.tmp 42) (.tmp 45) 39 83 (.int .u32 0) 4 rfl Tryz.underlying39 info83 rfl (by decide) (by omega) u5 x5_1 ((IntKind.u64.wrap ((IntKind.u64.wrap (x6_1 + (IntKind.u64.wrap (rd l0 x7_1)))) + (IntKind.u64.wrap (rd l1 x7_1)))) % 4294967296) [.int .u32 ((IntKind.u64.wrap ((IntKind.u64.wrap (x6_1 + (IntKind.u64.wrap (rd l0 x7_1)))) + (IntKind.u64.wrap (rd l1 x7_1)))) % 4294967296)] (fun _ => True) (fun _ => False) rfl rfl ?aP (fun _ hk => hk.elim) ?aF ?aO ?aB ?aS ?aL ?_; (case aP => exact rfl); (case aB => exact hbw); (case aF => exact (fun _ _ => trivial)); (case aO => exact (rUp HO_5.out)); (case aS => exact (below_size hbw)); (case aL => have := LMc9.out; omega); intro v315 w10 ho hb hg hat; rw [← Ny314.out] at ho; have n0_ := asd (hb); have n1_ := asd (ho); clear HB; clear HO_5; have HB := n0_; have HO316 := n1_; clear n0_ n1_; clear ho hb hg hat))
          go_roundg kj2
          case measure => have := HK1.out; have := HJ2.out; omega
          case rel => exact ⟨(y314), ((IntKind.u64.wrap ((IntKind.u64.wrap (x6_1 + (IntKind.u64.wrap (rd l0 x7_1)))) + (IntKind.u64.wrap (rd l1 x7_1)))) / 4294967296), (wrap64 (x7_1 + 1)), eqB, eqB, H', ⟨by have := HK1.out; have := HJ2.out; omega⟩, ⟨by (with_reducible repeat (first | apply Kd.R_alloc | apply Kd.R_drewN | apply Kd.R_drew)); exact HO316.out⟩, ⟨hbw⟩⟩
         ·rw [if_neg c9] at H
          exact absurd H (by simp)
        ·rw [if_neg c8] at H
         have c8b0 : decide (x7_1 < (l1.length : Int)) = false := decide_eq_false c8
         clear c8
         by_cases c11 : x5_1.length < 35184372088832
         ·rw [if_pos c11] at H
          have LMc11 := asd c11
          clear c11
          obtain ⟨y317, hy317⟩ : ∃ y_ : List Int, y_ = (x5_1 ++ [(IntKind.u64.wrap (x6_1 + (IntKind.u64.wrap (rd l0 x7_1)))) % 4294967296]) := ⟨_, rfl⟩
          replace H : (cuspref02_sum.l0 kj2 l0 l1 y317 ((IntKind.u64.wrap (x6_1 + (IntKind.u64.wrap (rd l0 x7_1)))) / 4294967296) (wrap64 (x7_1 + 1))) = some r := by first | (rw [hy317]; with_reducible exact H) | (have H2_ := (Option.bind_some _ _).symm.trans H; rw [hy317]; with_reducible exact H2_) | (have H2_ := (Option.bind_some _ _).symm.trans H; with_reducible exact H2_) | with_reducible exact H | (rw [hy317]; exact H) | exact H
          have Ny317 := asd hy317
          clear hy317
          have H' := asd H
          clear H
          have p312 : 0 ≤ (x7_1 : Int) := of_decide_eq_true (by first | (with_reducible assumption) | assumption)
          have q312 : x7_1 < (l0.length : Int) := of_decide_eq_true (by first | (with_reducible assumption) | assumption)
          obtain ⟨ad312, e312, hx312_0⟩ := Kd.at_int HR0.out x7_1 p312 q312
          cases e312
          replace hx312_0 := (HB.out.cell (World.block_lt_of_cell? w _ hx312_0)).trans hx312_0
          replace p312 := eq_true p312
          replace q312 := eq_true q312
          go_wp2_with (first | ((with_reducible refine gate_builtin (b := .append) (xs := #[.tmp 42, .tmp 45]) rfl ?_); (try (refine gate_guard (by rfl) ?_; dsimp only)); at_builtin; refine Kd.R_append (Kd.int .u32) (w0 := w) w.heap.size rfl (.tmp 42) (.tmp 45) 39 83 (.int .u32 0) 4 rfl Tryz.underlying39 info83 rfl (by decide) (by omega) u5 x5_1 ((IntKind.u64.wrap (x6_1 + (IntKind.u64.wrap (rd l0 x7_1)))) % 4294967296) [.int .u32 ((IntKind.u64.wrap (x6_1 + (IntKind.u64.wrap (rd l0 x7_1)))) % 4294967296)] (fun _ => True) (fun _ => False) rfl rfl ?aP (fun _ hk => hk.elim) ?aF ?aO ?aB ?aS ?aL ?_; (case aP => exact rfl); (case aB => exact hbw); (case aF => exact (fun _ _ => trivial)); (case aO => exact (rUp HO_5.out)); (case aS => exact (below_size hbw)); (case aL => have := LMc11.out; omega); intro v318 w12 ho hb hg hat; rw [← Ny317.out] at ho; have n0_ := asd (hb); have n1_ := asd (ho); clear HB; clear HO_5; have HB := n0_; have HO319 := n1_; clear n0_ n1_; clear ho hb hg hat))
          go_roundg kj2
          case measure => have := HK1.out; have := HJ2.out; omega
          case rel => exact ⟨(y317), ((IntKind.u64.wrap (x6_1 + (IntKind.u64.wrap (rd l0 x7_1)))) / 4294967296), (wrap64 (x7_1 + 1)), eqB, eqB, H', ⟨by have := HK1.out; have := HJ2.out; omega⟩, ⟨by (with_reducible repeat (first | apply Kd.R_alloc | apply Kd.R_drewN | apply Kd.R_drew)); exact HO319.out⟩, ⟨hbw⟩⟩
         ·rw [if_neg c11] at H
          exact absurd H (by simp)
       ·rw [if_neg c7] at H
        exact absurd H (by simp)
      ·rw [if_neg c6] at H
       have c6b0 : decide (x7_1 < (l0.length : Int)) = false := decide_eq_false c6
       clear c6
       by_cases c13 : x7_1 < (l1.length : Int)
       ·rw [if_pos c13] at H
        have c13b0 : decide (x7_1 < (l1.length : Int)) = true := decide_eq_true c13
        clear c13
        by_cases c14 : 0 ≤ x7_1
        ·rw [if_pos c14] at H
         have c14b0 : decide (0 ≤ x7_1) = true := decide_eq_true c14
         clear c14
         by_cases c15 : x5_1.length < 35184372088832
         ·rw [if_pos c15] at H
          have LMc15 := asd c15
          clear c15
          obtain ⟨y321, hy321⟩ : ∃ y_ : List Int, y_ = (x5_1 ++ [(IntKind.u64.wrap (x6_1 + (IntKind.u64.wrap (rd l1 x7_1)))) % 4294967296]) := ⟨_, rfl⟩
          replace H : (cuspref02_sum.l0 kj2 l0 l1 y321 ((IntKind.u64.wrap (x6_1 + (IntKind.u64.wrap (rd l1 x7_1)))) / 4294967296) (wrap64 (x7_1 + 1))) = some r := by first | (rw [hy321]; with_reducible exact H) | (have H2_ := (Option.bind_some _ _).symm.trans H; rw [hy321]; with_reducible exact H2_) | (have H2_ := (Option.bind_some _ _).symm.trans H; with_reducible exact H2_) | with_reducible exact H | (rw [hy321]; exact H) | exact H
          have Ny321 := asd hy321
          clear hy321
          have H' := asd H
          clear H
          have p320 : 0 ≤ (x7_1 : Int) := of_decide_eq_true (by first | (with_reducible assumption) | assumption)
          have q320 : x7_1 < (l1.length : Int) := of_decide_eq_true (by first | (with_reducible assumption) | assumption)
          obtain ⟨ad320, e320, hx320_0⟩ := Kd.at_int HR1.out x7_1 p320 q320
          cases e320
          replace hx320_0 := (HB.out.cell (World.block_lt_of_cell? w _ hx320_0)).trans hx320_0
          replace p320 := eq_true p320
          replace q320 := eq_true q320
          go_wp2_with (first | ((with_reducible refine gate_builtin (b := .append) (xs := #[.tmp 42, .tmp 45]) rfl ?_); (try (refine gate_guard (by rfl) ?_; dsimp only)); at_builtin; refine Kd.R_append (Kd.int .u32) (w0 := w) w.heap.size rfl (.tmp 42) (.tmp 45) 39 83 (.int .u32 0) 4 rfl Tryz.underlying39 info83 rfl (by decide) (by omega) u5 x5_1 ((IntKind.u64.wrap (x6_1 + (IntKind.u64.wrap (rd l1 x7_1)))) % 4294967296) [.int .u32 ((IntKind.u64.wrap (x6_1 + (IntKind.u64.wrap (rd l1 x7_1)))) % 4294967296)] (fun _ => True) (fun _ => False) rfl rfl ?aP (fun _ hk => hk.elim) ?aF ?aO ?aB ?aS ?aL ?_; (case aP => exact rfl); (case aB => exact hbw); (case aF => exact (fun _ _ => trivial)); (case aO => exact (rUp HO_5.out)); (case aS => exact (below_size hbw)); (case aL => have := LMc15.out; omega); intro v322 w16 ho hb hg hat; rw [← Ny321.out] at ho; have n0_ := asd (hb); have n1_ := asd (ho); clear HB; clear HO_5; have HB := n0_; have HO323 := n1_; clear n0_ n1_; clear ho hb hg hat))
          go_roundg kj2
          case measure => have := HK1.out; have := HJ2.out; omega
          case rel => exact ⟨(y321), ((IntKind.u64.wrap (x6_1 + (IntKind.u64.wrap (rd l1 x7_1)))) / 4294967296), (wrap64 (x7_1 + 1)), eqB, eqB, H', ⟨by have := HK1.out; have := HJ2.out; omega⟩, ⟨by (with_reducible repeat (first | apply Kd.R_alloc | apply Kd.R_drewN | apply Kd.R_drew)); exact HO323.out⟩, ⟨hbw⟩⟩
         ·rw [if_neg c15] at H
          exact absurd H (by simp)
        ·rw [if_neg c14] at H
         exact absurd H (by simp)
       ·rw [if_neg c13] at H
        have c13b0 : decide (x7_1 < (l1.length : Int)) = false := decide_eq_false c13
        clear c13
        by_cases c17 : x5_1.length < 35184372088832
        ·rw [if_pos c17] at H
         have LMc17 := asd c17
         clear c17
         obtain ⟨y324, hy324⟩ : ∃ y_ : List Int, y_ = (x5_1 ++ [(x6_1) % 4294967296]) := ⟨_, rfl⟩
         replace H : (cuspref02_sum.l0 kj2 l0 l1 y324 (x6_1 / 4294967296) (wrap64 (x7_1 + 1))) = some r := by first | (rw [hy324]; with_reducible exact H) | (have H2_ := (Option.bind_some _ _).symm.trans H; rw [hy324]; with_reducible exact H2_) | (have H2_ := (Option.bind_some _ _).symm.trans H; with_reducible exact H2_) | with_reducible exact H | (rw [hy324]; exact H) | exact H
         have Ny324 := asd hy324
         clear hy324
         have H' := asd H
         clear H
         go_wp2_with (first | ((with_reducible refine gate_builtin (b := .append) (xs := #[.tmp 42, .tmp 45]) rfl ?_); (try (refine gate_guard (by rfl) ?_; dsimp only)); at_builtin; refine Kd.R_append (Kd.int .u32) (w0 := w) w.heap.size rfl (.tmp 42) (.tmp 45) 39 83 (.int .u32 0) 4 rfl Tryz.underlying39 info83 rfl (by decide) (by omega) u5 x5_1 ((x6_1) % 4294967296) [.int .u32 ((x6_1) % 4294967296)] (fun _ => True) (fun _ => False) rfl rfl ?aP (fun _ hk => hk.elim) ?aF ?aO ?aB ?aS ?aL ?_; (case aP => exact rfl); (case aB => exact hbw); (case aF => exact (fun _ _ => trivial)); (case aO => exact (rUp HO_5.out)); (case aS => exact (below_size hbw)); (case aL => have := LMc17.out; omega); intro v325 w18 ho hb hg hat; rw [← Ny324.out] at ho; have n0_ := asd (hb); have n1_ := asd (ho); clear HB; clear HO_5; have HB := n0_; have HO326 := n1_; clear n0_ n1_; clear ho hb hg hat))
         go_roundg kj2
         case measure => have := HK1.out; have := HJ2.out; omega
         case rel => exact ⟨(y324), (x6_1 / 4294967296), (wrap64 (x7_1 + 1)), eqB, eqB, H', ⟨by have := HK1.out; have := HJ2.out; omega⟩, ⟨by (with_reducible repeat (first | apply Kd.R_alloc | apply Kd.R_drewN | apply Kd.R_drew)); exact HO326.out⟩, ⟨hbw⟩⟩
        ·rw [if_neg c17] at H
         exact absurd H (by simp)
     ·replace c5 := Bool.eq_false_iff.mpr c5
      subst c5
      have H1 : (if x6_1 > 0 then (if x5_1.length < 35184372088832 then (some (x5_1 ++ [(x6_1) % 4294967296])) else (none)) else (some x5_1)) = some r := by rw [if_neg (show ¬ (false = true) by decide)] at H; exact H
      clear H
      have H := H1
      clear H1
      by_cases c19 : x6_1 > 0
      ·rw [if_pos c19] at H
       have c19b0 : decide (0 < x6_1) = true := decide_eq_true c19
       clear c19
       by_cases c20 : x5_1.length < 35184372088832
       ·rw [if_pos c20] at H
        have LMc20 := asd c20
        clear c20
        obtain ⟨y309, hy309⟩ : ∃ y_ : List Int, y_ = (x5_1 ++ [(x6_1) % 4294967296]) := ⟨_, rfl⟩
        replace H : (some y309) = some r := by first | (rw [hy309]; with_reducible exact H) | (have H2_ := (Option.bind_some _ _).symm.trans H; rw [hy309]; with_reducible exact H2_) | (have H2_ := (Option.bind_some _ _).symm.trans H; with_reducible exact H2_) | with_reducible exact H | (rw [hy309]; exact H) | exact H
        have Ny309 := asd hy309
        clear hy309
        obtain rfl := Option.some.inj H
        go_wp2_with (first | ((with_reducible refine gate_builtin (b := .append) (xs := #[.tmp 51, .tmp 54]) rfl ?_); (try (refine gate_guard (by rfl) ?_; dsimp only)); at_builtin; refine Kd.R_append (Kd.int .u32) (w0 := w) w.heap.size rfl (.tmp 51) (.tmp 54) 39 83 (.int .u32 0) 4 rfl Tryz.underlying39 info83 rfl (by decide) (by omega) u5 x5_1 ((x6_1) % 4294967296) [.int .u32 ((x6_1) % 4294967296)] (fun _ => True) (fun _ => False) rfl rfl ?aP (fun _ hk => hk.elim) ?aF ?aO ?aB ?aS ?aL ?_; (case aP => exact rfl); (case aB => exact hbw); (case aF => exact (fun _ _ => trivial)); (case aO => exact (rUp HO_5.out)); (case aS => exact (below_size hbw)); (case aL => have := LMc20.out; omega); intro v310 w21 ho hb hg hat; rw [← Ny309.out] at ho; have n0_ := asd (hb); have n1_ := asd (ho); clear HB; clear HO_5; have HB := n0_; have HO311 := n1_; clear n0_ n1_; clear ho hb hg hat))
        go_ret
        exact ⟨_, eqC, by (with_reducible repeat (first | apply Kd.R_alloc | apply Kd.R_drewN | apply Kd.R_drew)); exact HO311.out, hbw⟩
       ·rw [if_neg c20] at H
        exact absurd H (by simp)
      ·rw [if_neg c19] at H
       have c19b0 : decide (0 < x6_1) = false := decide_eq_false c19
       clear c19
       obtain rfl := Option.some.inj H
       go_wp2
       go_ret
       exact ⟨_, eqC, by (with_reducible repeat (first | apply Kd.R_alloc | apply Kd.R_drewN | apply Kd.R_drew)); exact HO_5.out, hbw⟩
def cuspref02_norm.l0 : Nat → Bool → List Int → Int → Int → Option (Bool × List Int × Int)
 | 0, _, _, _, _ => none
 | k + 1, x0, x1, x2, x7 => if 0 ≤ (wrap64 (Int.tdiv x7 32)) then (if (wrap64 (Int.tdiv x7 32)) < (x1.length : Int) then (if 0 ≤ (IntKind.u64.wrap (Int.tmod x7 32)) then (if (Go.bits .and .u32 (shr .u32 (rd x1 (wrap64 (Int.tdiv x7 32))) (IntKind.u64.wrap (Int.tmod x7 32))) 1) = 0 then (cuspref02_norm.l0 k x0 x1 x2 (wrap64 (x7 + 1))) else ((cuspref02_down.f k x1 x7).bind fun bt332 => (if 0 ≤ 70368744177664 then ((some (List.replicate 0 0 : List Int)).bind fun y336 => (if y336.length + bt332.1.length < 35184372088832 then (some (x0, (y336 ++ bt332.1), wrap64 (x2 + x7))) else (none))) else (none)))) else (none)) else (none)) else (none)
def cuspref02_norm.f (k : Nat) (a0 : Bool) (l1 : List Int) (a2 : Int) : Option (Bool × List Int × Int) := (cuspref02_trim.f k l1).bind fun t328 => (if (t328.length : Int) = 0 then (some (false, ([] : List Int), 0)) else (cuspref02_norm.l0 k a0 t328 a2 0))
theorem cuspref02_norm.calls (k : Nat) (a0 : Bool) (P1_ : Nat → Prop) (u9000_ : Value) (l1 : List Int) (a2 : Int) (r1 : Bool) (r2 : List Int) (r3 : Int) (w0 w : World) (hB : Below w0.heap.size w0 w) (ho1 : Kd.R (Kd.int .u32) 83 w w0.heap.size P1_ u9000_ l1) (h : cuspref02_norm.f k a0 l1 a2 = some (r1, r2, r3)) :
  Calls Tryz.prog 65 #[.bool a0, u9000_, .int .i64 a2] w fun e w' => ∃ v1_ : Value, e = .returned (.agg #[.bool r1, v1_, .int .i64 r3]) ∧ Kd.R (Kd.int .u32) 83 w' w0.heap.size (fun k_ => (P1_ k_ ∨ w.heap.size ≤ k_)) v1_ r2 ∧ Below w0.heap.size w0 w' ∧ Kept w w' (fun k_ => P1_ k_) := by
 have hu41 := Tryz.underlying41
 have HO1 := asd (show Kd.R (Kd.int .u32) 83 w w0.heap.size (fun k_ => (P1_ k_ ∨ w.heap.size ≤ k_)) u9000_ l1 from Kd.R_mono ho1 (fun k_ hk => (.inl hk)))
 have HK := asd (Kept.refl w (fun k_ => P1_ k_))
 have HW0 := asd hB.size
 have HB := asd hB
 clear hB
 have H : ((cuspref02_trim.f k l1).bind fun t328 => (if (t328.length : Int) = 0 then (some (false, ([] : List Int), 0)) else (cuspref02_norm.l0 k a0 t328 a2 0))) = some (r1, r2, r3) := h
 clear h
 replace H := Option.bind_eq_some_iff.mp H
 obtain ⟨t328, A40, H⟩ := H
 replace H : (if (t328.length : Int) = 0 then (some (false, ([] : List Int), 0)) else (cuspref02_norm.l0 k a0 t328 a2 0)) = some (r1, r2, r3) := H
 have A4 := asd A40
 clear A40
 by_cases c5 : (t328.length : Int) = 0
 ·rw [if_pos c5] at H
  have c5b0 : ((t328.length : Int) == 0) = true := beq_iff_eq.mpr c5
  have c5b1 : ((t328.length : Int) != 0) = false := bne_eq_false_iff_eq.mpr c5
  clear c5
  simp only [Option.some.injEq, Prod.mk.injEq] at H
  obtain ⟨rfl, rfl, rfl⟩ := H
  go_enter Tryz.func65, Tryz.ntmps65
  go_wp2_with (first | ((with_reducible refine gate_dst (N := 6) rfl ?_); refine box_event ?hg (N := 6) ?hd (cs := #[.bool false, .slice none 0 0, .int .i64 0]) (t := 41) ?hr ?_; (case hd => rfl); (case hg => rfl); (case hr => first | (go_simp; done) | (go_simp; rfl)); intro gb327 hg w6 hbox hb; have n0_ := asd (Kd.R_below (rUp HO1.out) hb); have n1_ := asd (Kept.below (S := (fun k_ => P1_ k_)) (by repeat (first | (with_reducible first | exact HK.out | apply Kept.alloc | apply Kept.drewN | apply Kept.drew) | exact HK.out)) hb); have n2_ := asd (below_step hbw hb); have n3_ := asd (hbox); have n4_ := asd ((by rw [hg]; exact (by first | exact HK.out.1 | exact (show Kept w _ (fun k_ => P1_ k_) from by repeat (first | (with_reducible first | exact HK.out | apply Kept.alloc | apply Kept.drewN | apply Kept.drew) | exact HK.out)).1) : w.heap.size ≤ gb327)); have n5_ := asd ((by rw [hg]; exact (below_size hbw) : w0.heap.size ≤ gb327)); clear HO1; clear HK; clear HB; have HO1 := n0_; have HK := n1_; have HB := n2_; have BK327 := n3_; have GW327 := n4_; have GE327 := n5_; clear n0_ n1_ n2_ n3_ n4_ n5_; clear hb hbox hg; obtain ⟨Ao7, co7, eo7⟩ := Kd.R_slice HO1.out; subst eo7) | ((with_reducible refine gate_callee (f := 99) rfl ?_); refine goesL_ (some 11) rfl rfl Tryz.func99 (by kernel_rfl) rfl #[.slice Ao7 l1.length co7] rfl eqA ?_; (with_reducible refine (cuspref02_trim.calls k (fun k_ => some k_ = (.slice Ao7 l1.length co7 : Value).ownBlock) (.slice Ao7 l1.length co7) l1 t328 w0 _ ?side1 ?side2 A4.out).mono ?_); (case side1 => repeat (first | (with_reducible first | exact HB.out | apply below_alloc | apply pw_below_drewN | apply below_drew1 | refine below_set ?_ GE327.out) | exact HB.out)); (case side2 => exact Kd.R_tight rfl HO1.out); rintro e w8 ⟨v329, rfl, ho0, hb, hkp⟩; refine ⟨_, rfl, ?_⟩; have n0_ := asd (blk_kept (blkU BK327.out) hkp (fun hs_ => (fun e_ => (Kd.R_ne HO1.out BK327.out (by decide)) e_) hs_)); have n1_ := asd (Kd.R_mono (ok' := fun k_ => (P1_ k_ ∨ w.heap.size ≤ k_)) ho0 (fun k_ hk_ => Or.elim hk_ (fun hs_ => (HO1.out.1 k_ (hs_).symm)) (fun hn_ => (.inr (Nat.le_trans (by first | exact HK.out.1 | exact (show Kept w _ (fun k_ => P1_ k_) from by repeat (first | (with_reducible first | exact HK.out | apply Kept.alloc | apply Kept.drewN | apply Kept.drew | refine Kept.setCell ?_ (.inr GW327.out) _) | exact HK.out)).1) hn_))))); have n2_ := asd (Kept.then_ (S := (fun k_ => P1_ k_)) (by repeat (first | (with_reducible first | exact HK.out | apply Kept.alloc | apply Kept.drewN | apply Kept.drew | refine Kept.setCell ?_ (.inr GW327.out) _) | exact HK.out)) hkp (fun k_ hs_ => (fun e_ => (HO1.out.1 k_ e_.symm)) hs_)); have n3_ := asd (hb); clear BK327; clear HK; clear HB; clear HO1; have BK327 := n0_; have HO330 := n1_; have HK := n2_; have HB := n3_; clear n0_ n1_ n2_ n3_; (try clear hb); (try clear hkp); (try clear ho0); obtain ⟨Ao9, co9, eo9⟩ := Kd.R_slice HO330.out; subst eo9; have hcz10_0 : w8.cell? ⟨gb327, 0, none⟩ = some (.bool false) := (blk_cell BK327.out 0).trans rfl; have hcz10_1 : w8.cell? ⟨gb327, 1, none⟩ = some (.slice none 0 0) := (blk_cell BK327.out 1).trans rfl; have hcz10_2 : w8.cell? ⟨gb327, 2, none⟩ = some (.int .i64 0) := (blk_cell BK327.out 2).trans rfl; have hfz10_0 := blk_frozen BK327.out 0; have hfz10_1 := blk_frozen BK327.out 1; have hfz10_2 := blk_frozen BK327.out 2))
  refine bodyPost_ret (results_cell_row rfl _ _ gb327 41 #[.bool false, .slice none 0 0, .int .i64 0] (0, 0) _ rfl (by (with_reducible repeat (first | refine blk_drewN ?_ _ | refine blk_drew ?_ | refine blk_alloc ?_ _)); refine blk_put (cs := #[.bool false, .slice none 0 0, .int .i64 0]) ?_ 2 _ rfl; (with_reducible repeat (first | refine blk_drewN ?_ _ | refine blk_drew ?_ | refine blk_alloc ?_ _)); refine blk_put (cs := #[.bool false, .slice none 0 0, .int .i64 0]) ?_ 1 _ rfl; (with_reducible repeat (first | refine blk_drewN ?_ _ | refine blk_drew ?_ | refine blk_alloc ?_ _)); refine blk_put (cs := #[.bool false, .slice none 0 0, .int .i64 0]) ?_ 0 _ rfl; (with_reducible repeat (first | refine blk_drewN ?_ _ | refine blk_drew ?_ | refine blk_alloc ?_ _)); exact BK327.out) Tryz.underlying41 rfl (by kernel_rfl)) rfl ?_
  exact ⟨_, eqC, by first | exact Kd.R_nil _ _ _ _ _ | exact Kd.N_nil _ _ _ _ _ | exact Kd.V_nil _ _ _ _ _ | exact Kd.Q_nil _ _ _ _ _ | exact Kd.S_nil _ _ _ _ _, by repeat (first | (with_reducible first | exact HB.out | apply below_alloc | apply pw_below_drewN | apply below_drew1 | refine below_set ?_ GE327.out) | exact HB.out), by repeat (first | (with_reducible first | exact HK.out | apply Kept.alloc | apply Kept.drewN | apply Kept.drew | refine Kept.setCell ?_ (.inr GW327.out) _) | exact HK.out)⟩
 ·rw [if_neg c5] at H
  have c5b0 : ((t328.length : Int) == 0) = false := beq_eq_false_iff_ne.mpr c5
  have c5b1 : ((t328.length : Int) != 0) = true := bne_iff_ne.mpr c5
  have c5b2 : ¬ (t328 = []) := fun h_ => c5 (by rw [h_]; rfl)
  have H' := asd H
  clear H
  go_enter Tryz.func65, Tryz.ntmps65
  go_wp2_with (first | ((with_reducible refine gate_dst (N := 6) rfl ?_); refine box_event ?hg (N := 6) ?hd (cs := #[.bool false, .slice none 0 0, .int .i64 0]) (t := 41) ?hr ?_; (case hd => rfl); (case hg => rfl); (case hr => first | (go_simp; done) | (go_simp; rfl)); intro gb327 hg w11 hbox hb; have n0_ := asd (Kd.R_below (rUp HO1.out) hb); have n1_ := asd (Kept.below (S := (fun k_ => P1_ k_)) (by repeat (first | (with_reducible first | exact HK.out | apply Kept.alloc | apply Kept.drewN | apply Kept.drew) | exact HK.out)) hb); have n2_ := asd (below_step hbw hb); have n3_ := asd (hbox); have n4_ := asd ((by rw [hg]; exact (by first | exact HK.out.1 | exact (show Kept w _ (fun k_ => P1_ k_) from by repeat (first | (with_reducible first | exact HK.out | apply Kept.alloc | apply Kept.drewN | apply Kept.drew) | exact HK.out)).1) : w.heap.size ≤ gb327)); have n5_ := asd ((by rw [hg]; exact (below_size hbw) : w0.heap.size ≤ gb327)); clear HO1; clear HK; clear HB; have HO1 := n0_; have HK := n1_; have HB := n2_; have BK327 := n3_; have GW327 := n4_; have GE327 := n5_; clear n0_ n1_ n2_ n3_ n4_ n5_; clear hb hbox hg; obtain ⟨Ao12, co12, eo12⟩ := Kd.R_slice HO1.out; subst eo12) | ((with_reducible refine gate_callee (f := 99) rfl ?_); refine goesL_ (some 11) rfl rfl Tryz.func99 (by kernel_rfl) rfl #[.slice Ao12 l1.length co12] rfl eqA ?_; (with_reducible refine (cuspref02_trim.calls k (fun k_ => some k_ = (.slice Ao12 l1.length co12 : Value).ownBlock) (.slice Ao12 l1.length co12) l1 t328 w0 _ ?side1 ?side2 A4.out).mono ?_); (case side1 => repeat (first | (with_reducible first | exact HB.out | apply below_alloc | apply pw_below_drewN | apply below_drew1 | refine below_set ?_ GE327.out) | exact HB.out)); (case side2 => exact Kd.R_tight rfl HO1.out); rintro e w13 ⟨v329, rfl, ho0, hb, hkp⟩; refine ⟨_, rfl, ?_⟩; have n0_ := asd (blk_kept (blkU BK327.out) hkp (fun hs_ => (fun e_ => (Kd.R_ne HO1.out BK327.out (by decide)) e_) hs_)); have n1_ := asd (Kd.R_mono (ok' := fun k_ => (P1_ k_ ∨ w.heap.size ≤ k_)) ho0 (fun k_ hk_ => Or.elim hk_ (fun hs_ => (HO1.out.1 k_ (hs_).symm)) (fun hn_ => (.inr (Nat.le_trans (by first | exact HK.out.1 | exact (show Kept w _ (fun k_ => P1_ k_) from by repeat (first | (with_reducible first | exact HK.out | apply Kept.alloc | apply Kept.drewN | apply Kept.drew | refine Kept.setCell ?_ (.inr GW327.out) _) | exact HK.out)).1) hn_))))); have n2_ := asd (Kept.then_ (S := (fun k_ => P1_ k_)) (by repeat (first | (with_reducible first | exact HK.out | apply Kept.alloc | apply Kept.drewN | apply Kept.drew | refine Kept.setCell ?_ (.inr GW327.out) _) | exact HK.out)) hkp (fun k_ hs_ => (fun e_ => (HO1.out.1 k_ e_.symm)) hs_)); have n3_ := asd (hb); clear BK327; clear HK; clear HB; clear HO1; have BK327 := n0_; have HO330 := n1_; have HK := n2_; have HB := n3_; clear n0_ n1_ n2_ n3_; (try clear hb); (try clear hkp); (try clear ho0); obtain ⟨Ao14, co14, eo14⟩ := Kd.R_slice HO330.out; subst eo14))
  go_loopg [7] k (fun kq v7 w' => ∃ (x7_1 : Int), v7 = .int .i64 x7_1 ∧ Aside0 (cuspref02_norm.l0 kq a0 t328 a2 x7_1 = some (r1, r2, r3)) ∧ Aside0 (kq ≤ k) ∧ Aside0 (Kd.R (Kd.int .u32) 83 w' w0.heap.size (fun k_ => (P1_ k_ ∨ w.heap.size ≤ k_)) (.slice Ao14 t328.length co14) t328) ∧ Aside0 (w'.heap[gb327]? = some (.cells #[.bool false, (.slice none 0 0), .int .i64 0] 41 (0, 0))) ∧ Aside0 (Kept w w' (fun k_ => P1_ k_)) ∧ Aside0 (Below w0.heap.size w0 w'))
  case atStart => exact ⟨(0), eqB, H', ⟨Nat.le_refl _⟩, ⟨by (with_reducible repeat (first | apply Kd.R_alloc | apply Kd.R_drewN | apply Kd.R_drew)); exact HO330.out⟩, ⟨by (with_reducible repeat (first | refine blk_drewN ?_ _ | refine blk_drew ?_ | refine blk_alloc ?_ _)); exact BK327.out⟩, ⟨by repeat (first | (with_reducible first | exact HK.out | apply Kept.alloc | apply Kept.drewN | apply Kept.drew | refine Kept.setCell ?_ (.inr GW327.out) _) | exact HK.out)⟩, ⟨by repeat (first | (with_reducible first | exact HB.out | apply below_alloc | apply pw_below_drewN | apply below_drew1 | refine below_set ?_ GE327.out) | exact HB.out)⟩⟩
  case round =>
   clear H'
   try clear p2
   try clear c5
   try clear c5b0
   try clear c5b1
   try clear c5b2
   try clear c6
   try clear c9
   try clear hcz10_0
   try clear hcz10_1
   try clear hcz10_2
   try clear hfz10_0
   try clear hfz10_1
   try clear hfz10_2
   obtain ⟨x7_1, rfl, HA, HK1, HO_1, BK327, HK, HB⟩ := hrel
   cases gk with
   | zero => exact absurd HA.out (by simp [cuspref02_norm.l0])
   | succ k1 =>
    have H := HA.out
    clear HA
    simp only [cuspref02_norm.l0] at H
    obtain ⟨ji15, hji15⟩ : ∃ j_ : Int, (wrap64 (Int.tdiv x7_1 32)) = j_ := ⟨_, rfl⟩
    replace H : (if 0 ≤ (ji15) then (if (ji15) < (t328.length : Int) then (if 0 ≤ (IntKind.u64.wrap (Int.tmod x7_1 32)) then (if (Go.bits .and .u32 (shr .u32 (rd t328 (ji15)) (IntKind.u64.wrap (Int.tmod x7_1 32))) 1) = 0 then (cuspref02_norm.l0 k1 a0 t328 a2 (wrap64 (x7_1 + 1))) else ((cuspref02_down.f k1 t328 x7_1).bind fun bt332 => (if 0 ≤ 70368744177664 then ((some (List.replicate 0 0 : List Int)).bind fun y336 => (if y336.length + bt332.1.length < 35184372088832 then (some (a0, (y336 ++ bt332.1), wrap64 (a2 + x7_1))) else (none))) else (none)))) else (none)) else (none)) else (none)) = some (r1, r2, r3) := by first | (rw [hji15] at H; exact H) | (simp only [hji15] at H ⊢; exact H)
    have hji15w : (IntKind.i64.wrap (Int.tdiv x7_1 32)) = ji15 := (i64_w _).trans hji15
    by_cases c16 : 0 ≤ (ji15)
    ·rw [if_pos c16] at H
     have c16b0 : decide (0 ≤ (ji15)) = true := decide_eq_true c16
     clear c16
     by_cases c17 : (ji15) < (t328.length : Int)
     ·rw [if_pos c17] at H
      have c17b0 : decide ((ji15) < (t328.length : Int)) = true := decide_eq_true c17
      clear c17
      obtain ⟨ji18, hji18⟩ : ∃ j_ : Int, (IntKind.u64.wrap (Int.tmod x7_1 32)) = j_ := ⟨_, rfl⟩
      replace H : (if 0 ≤ (ji18) then (if (Go.bits .and .u32 (shr .u32 (rd t328 (ji15)) (ji18)) 1) = 0 then (cuspref02_norm.l0 k1 a0 t328 a2 (wrap64 (x7_1 + 1))) else ((cuspref02_down.f k1 t328 x7_1).bind fun bt332 => (if 0 ≤ 70368744177664 then ((some (List.replicate 0 0 : List Int)).bind fun y336 => (if y336.length + bt332.1.length < 35184372088832 then (some (a0, (y336 ++ bt332.1), wrap64 (a2 + x7_1))) else (none))) else (none)))) else (none)) = some (r1, r2, r3) := by first | (rw [hji18] at H; exact H) | (simp only [hji18] at H ⊢; exact H)
      by_cases c19 : 0 ≤ (ji18)
      ·rw [if_pos c19] at H
       have c19b0 := eq_true c19
       have c19b1 : decide (0 ≤ (ji18)) = true := decide_eq_true c19
       clear c19
       obtain ⟨ji20, hji20⟩ : ∃ j_ : Int, (shr .u32 (rd t328 (ji15)) (ji18)) = j_ := ⟨_, rfl⟩
       replace H : (if (Go.bits .and .u32 (ji20) 1) = 0 then (cuspref02_norm.l0 k1 a0 t328 a2 (wrap64 (x7_1 + 1))) else ((cuspref02_down.f k1 t328 x7_1).bind fun bt332 => (if 0 ≤ 70368744177664 then ((some (List.replicate 0 0 : List Int)).bind fun y336 => (if y336.length + bt332.1.length < 35184372088832 then (some (a0, (y336 ++ bt332.1), wrap64 (a2 + x7_1))) else (none))) else (none)))) = some (r1, r2, r3) := by first | (rw [hji20] at H; exact H) | (simp only [hji20] at H ⊢; exact H)
       have hji20_ : ((rd t328 (ji15)) / 2 ^ min (ji18).toNat 32) = ji20 := hji20
       have hji20z : (ji18) ≤ 32 → ((rd t328 (ji15)) / 2 ^ (ji18).toNat) = ji20 := shr_small hji20
       by_cases c21 : (Go.bits .and .u32 (ji20) 1) = 0
       ·rw [if_pos c21] at H
        have c21b0 : ((Go.bits .and .u32 (ji20) 1) == 0) = true := beq_iff_eq.mpr c21
        have c21b1 : ((Go.bits .and .u32 (ji20) 1) != 0) = false := bne_eq_false_iff_eq.mpr c21
        clear c21
        have H' := asd H
        clear H
        have p331 : 0 ≤ ((ji15) : Int) := of_decide_eq_true (by first | (with_reducible assumption) | assumption)
        have q331 : (ji15) < (t328.length : Int) := of_decide_eq_true (by first | (with_reducible assumption) | assumption)
        obtain ⟨ad331, e331, hx331_0⟩ := Kd.at_int (Kd.R_reads' HO_1.out).2.2 (ji15) p331 q331
        cases e331
        replace p331 := eq_true p331
        replace q331 := eq_true q331
        go_wp2
        go_roundg k1
        case measure => have := HK1.out; omega
        case rel => exact ⟨(wrap64 (x7_1 + 1)), eqB, H', ⟨by have := HK1.out; omega⟩, ⟨by (with_reducible repeat (first | apply Kd.R_alloc | apply Kd.R_drewN | apply Kd.R_drew)); exact HO_1.out⟩, ⟨by (with_reducible repeat (first | refine blk_drewN ?_ _ | refine blk_drew ?_ | refine blk_alloc ?_ _)); exact BK327.out⟩, ⟨by repeat (first | (with_reducible first | exact HK.out | apply Kept.alloc | apply Kept.drewN | apply Kept.drew | refine Kept.setCell ?_ (.inr GW327.out) _) | exact HK.out)⟩, ⟨by repeat (first | (with_reducible first | exact HB.out | apply below_alloc | apply pw_below_drewN | apply below_drew1 | refine below_set ?_ GE327.out) | exact HB.out)⟩⟩
       ·rw [if_neg c21] at H
        have c21b0 : ((Go.bits .and .u32 (ji20) 1) == 0) = false := beq_eq_false_iff_ne.mpr c21
        have c21b1 : ((Go.bits .and .u32 (ji20) 1) != 0) = true := bne_iff_ne.mpr c21
        replace H := Option.bind_eq_some_iff.mp H
        obtain ⟨⟨t332, t333⟩, A220, H⟩ := H
        replace H : (if 0 ≤ 70368744177664 then ((some (List.replicate 0 0 : List Int)).bind fun y336 => (if y336.length + t332.length < 35184372088832 then (some (a0, (y336 ++ t332), wrap64 (a2 + x7_1))) else (none))) else (none)) = some (r1, r2, r3) := H
        have A22 := asd A220
        clear A220
        by_cases c23 : 0 ≤ 70368744177664
        ·rw [if_pos c23] at H
         have c23b0 := eq_true c23
         have c23b1 : decide (0 ≤ 70368744177664) = true := decide_eq_true c23
         clear c23
         obtain ⟨y336, hy336⟩ : ∃ y_ : List Int, y_ = (List.replicate 0 0) := ⟨_, rfl⟩
         replace H : (if y336.length + t332.length < 35184372088832 then (some (a0, (y336 ++ t332), wrap64 (a2 + x7_1))) else (none)) = some (r1, r2, r3) := by first | (rw [hy336]; with_reducible exact H) | (have H2_ := (Option.bind_some _ _).symm.trans H; rw [hy336]; with_reducible exact H2_) | (have H2_ := (Option.bind_some _ _).symm.trans H; with_reducible exact H2_) | with_reducible exact H | (rw [hy336]; exact H) | exact H
         have Ny336 := asd hy336
         clear hy336
         by_cases c24 : y336.length + t332.length < 35184372088832
         ·rw [if_pos c24] at H
          have LMc24 := asd c24
          clear c24
          obtain ⟨y339, hy339⟩ : ∃ y_ : List Int, y_ = (y336 ++ t332) := ⟨_, rfl⟩
          replace H : (some (a0, y339, wrap64 (a2 + x7_1))) = some (r1, r2, r3) := by first | (rw [hy339]; with_reducible exact H) | (have H2_ := (Option.bind_some _ _).symm.trans H; rw [hy339]; with_reducible exact H2_) | (have H2_ := (Option.bind_some _ _).symm.trans H; with_reducible exact H2_) | with_reducible exact H | (rw [hy339]; exact H) | exact H
          have Ny339 := asd hy339
          clear hy339
          simp only [Option.some.injEq, Prod.mk.injEq] at H
          obtain ⟨rfl, rfl, rfl⟩ := H
          have p331 : 0 ≤ ((ji15) : Int) := of_decide_eq_true (by first | (with_reducible assumption) | assumption)
          have q331 : (ji15) < (t328.length : Int) := of_decide_eq_true (by first | (with_reducible assumption) | assumption)
          obtain ⟨ad331, e331, hx331_0⟩ := Kd.at_int (Kd.R_reads' HO_1.out).2.2 (ji15) p331 q331
          cases e331
          replace p331 := eq_true p331
          replace q331 := eq_true q331
          go_wp2_with (first | ((with_reducible refine gate_callee (f := 100) rfl ?_); refine goesL_ (some 32) rfl rfl Tryz.func100 (by kernel_rfl) rfl #[.slice (some ad331) t328.length co14, .int .i64 x7_1] rfl eqA ?_; (with_reducible refine (cuspref02_down.calls k1 _ _ t328 x7_1 t332 t333 _ ?side1 ?side2 A22.out).mono ?_); (case side1 => repeat (first | exact (Kd.R_reads' HO_1.out).2.2 | (with_reducible refine Kd.C_alloc ?_ _) | (with_reducible refine Kd.C_drewN ?_ _) | (with_reducible refine Kd.C_drew ?_))); (case side2 => exact (Kd.R_reads' HO_1.out).2.1); rintro e w25 ⟨v334, rfl, ho0, hb⟩; refine ⟨_, rfl, ?_⟩; have n0_ := asd (Kd.R_elder' (rUp HO_1.out) (Kd.R_base ho0) hb); have n1_ := asd (Kd.R_lower (Kd.R_new' (Kd.R_newM (M := fun k_ => (P1_ k_ ∨ w.heap.size ≤ k_)) ho0 (by first | exact HK.out.1 | exact (show Kept w _ (fun k_ => P1_ k_) from by repeat (first | (with_reducible first | exact HK.out | apply Kept.alloc | apply Kept.drewN | apply Kept.drew | refine Kept.setCell ?_ (.inr GW327.out) _) | exact HK.out)).1) (fun k_ h_ => .inr h_)) (Kd.R_lt (rUp HO_1.out))) (below_size (by repeat (first | (with_reducible first | exact HB.out | apply below_alloc | apply pw_below_drewN | apply below_drew1 | refine below_set ?_ GE327.out) | exact HB.out)))); have n2_ := asd (blk_below (g := gb327) (o := .cells #[.bool false, .slice none 0 0, .int .i64 0] 41 (0, 0)) (blkU BK327.out) hb); have n3_ := asd (Kept.below (S := (fun k_ => P1_ k_)) (by repeat (first | (with_reducible first | exact HK.out | apply Kept.alloc | apply Kept.drewN | apply Kept.drew | refine Kept.setCell ?_ (.inr GW327.out) _) | exact HK.out)) hb); have n4_ := asd (below_step (by repeat (first | (with_reducible first | exact HB.out | apply below_alloc | apply pw_below_drewN | apply below_drew1 | refine below_set ?_ GE327.out) | exact HB.out)) hb); clear HO_1; clear BK327; clear HK; clear HB; have HO_1 := n0_; have HO335 := n1_; have BK327 := n2_; have HK := n3_; have HB := n4_; clear n0_ n1_ n2_ n3_ n4_; (try clear hb); (try clear hb2); (try clear hk); (try clear hi); (try clear ho0)) | ((with_reducible refine gate_dst (N := 36) rfl ?_); refine Kd.R_make (Kd.int .u32) _ 83 rfl (N := 36) rfl 39 _ _ rfl 0 rfl rfl Tryz.underlying39 (.int .u32 0) 4 info83 rfl (by decide) (by omega) 0 (ok := fun _ => True) (okp := fun _ => True) rfl (fun _ hk => hk) trivial (by omega) (by omega) (Below.refl _ _) (Nat.le_refl _) ?_; intro v337 w26 ho27 hb hg_ hnew_; clear hg_ hnew_; (first | rw [← Ny336.out] at ho27 | (simp only [Int.reduceToNat] at ho27; rw [← Ny336.out] at ho27)); have n0_ := asd (Kd.R_elder' (rUp HO_1.out) (Kd.R_base ho27) hb); have n1_ := asd (Kd.R_elder' (rUp HO335.out) (Kd.R_base ho27) hb); have n2_ := asd (Kd.R_lower (Kd.R_new' (Kd.R_new' (Kd.R_newM (M := fun k_ => (P1_ k_ ∨ w.heap.size ≤ k_)) ho27 (by first | exact HK.out.1 | exact (show Kept w _ (fun k_ => P1_ k_) from by repeat (first | (with_reducible first | exact HK.out | apply Kept.alloc | apply Kept.drewN | apply Kept.drew | refine Kept.setCell ?_ (.inr GW327.out) _) | exact HK.out)).1) (fun k_ h_ => .inr h_)) (Kd.R_lt (rUp HO_1.out))) (Kd.R_lt (rUp HO335.out))) (below_size (by repeat (first | (with_reducible first | exact HB.out | apply below_alloc | apply pw_below_drewN | apply below_drew1 | refine below_set ?_ GE327.out) | exact HB.out)))); have n3_ := asd (blk_below (g := gb327) (o := .cells #[.bool false, .slice none 0 0, .int .i64 0] 41 (0, 0)) (blkU BK327.out) hb); have n4_ := asd (Kept.below (S := (fun k_ => P1_ k_)) (by repeat (first | (with_reducible first | exact HK.out | apply Kept.alloc | apply Kept.drewN | apply Kept.drew | refine Kept.setCell ?_ (.inr GW327.out) _) | exact HK.out)) hb); have n5_ := asd (below_step (by repeat (first | (with_reducible first | exact HB.out | apply below_alloc | apply pw_below_drewN | apply below_drew1 | refine below_set ?_ GE327.out) | exact HB.out)) hb); clear HO_1; clear HO335; clear BK327; clear HK; clear HB; have HO_1 := n0_; have HO335 := n1_; have HO338 := n2_; have BK327 := n3_; have HK := n4_; have HB := n5_; clear n0_ n1_ n2_ n3_ n4_ n5_; clear hb ho27; obtain ⟨Ao29, co29, eo29⟩ := Kd.R_slice HO335.out; subst eo29) | ((with_reducible refine gate_builtin (b := .append) (xs := #[.tmp 36, .tmp 37]) rfl ?_); at_builtin; refine Kd.R_append_rows (Kd.int .u32) (w0 := w0) w0.heap.size rfl (.tmp 36) (.tmp 37) 39 83 (.int .u32 0) 4 rfl Tryz.underlying39 info83 rfl (by decide) (by omega) v337 y336 t332 _ _ _ (fun k_ => (P1_ k_ ∨ w.heap.size ≤ k_) ∧ some k_ ≠ (.slice (some ad331) t328.length co14 : Value).ownBlock ∧ some k_ ≠ (.slice Ao29 t332.length co29 : Value).ownBlock) (fun _ => False) rfl rfl ?aO ?aR (fun _ _ h => h) (fun _ h => h.elim) ?aF ?aB ?aS ?aL ?_; (case aR => repeat (first | exact (Kd.R_reads' HO335.out).2.2 | (with_reducible refine Kd.C_alloc ?_ _) | (with_reducible refine Kd.C_drewN ?_ _) | (with_reducible refine Kd.C_drew ?_))); (case aB => exact (by repeat (first | (with_reducible first | exact HB.out | apply below_alloc | apply pw_below_drewN | apply below_drew1 | refine below_set ?_ GE327.out) | exact HB.out))); (case aF => exact (fun k_ hk => ⟨(.inr (Nat.le_trans (by first | exact HK.out.1 | exact (show Kept w _ (fun k_ => P1_ k_) from by repeat (first | (with_reducible first | exact HK.out | apply Kept.alloc | apply Kept.drewN | apply Kept.drew | refine Kept.setCell ?_ (.inr GW327.out) _) | exact HK.out)).1) hk)), Kd.fresh' (Kd.R_lt (rUp HO_1.out)) k_ hk, Kd.fresh' (Kd.R_lt (rUp HO335.out)) k_ hk⟩)); (case aO => exact (by (with_reducible repeat (first | apply Kd.R_alloc | apply Kd.R_drewN | apply Kd.R_drew)); exact Kd.R_mono HO338.out (fun _ hk => ⟨hk.1.1.1, ⟨hk.1.2, hk.2⟩⟩))); (case aS => exact (below_size (by repeat (first | (with_reducible first | exact HB.out | apply below_alloc | apply pw_below_drewN | apply below_drew1 | refine below_set ?_ GE327.out) | exact HB.out)))); (case aL => have := LMc24.out; omega); intro v340 w28 ho hb hg hat; rw [← Ny339.out] at ho; have n0_ := asd (Kd.R_after (ok := (fun k_ => (P1_ k_ ∨ w.heap.size ≤ k_) ∧ some k_ ≠ (.slice Ao29 t332.length co29 : Value).ownBlock)) (rUp HO_1.out) hg hat); have n1_ := asd (blk_grown (g := gb327) (o := .cells #[.bool false, .slice none 0 0, .int .i64 0] 41 (0, 0)) (blkU BK327.out) hg (Kd.R_ne HO338.out BK327.out (by decide))); have n2_ := asd (Kd.R_after (ok := (fun k_ => (P1_ k_ ∨ w.heap.size ≤ k_) ∧ some k_ ≠ (.slice (some ad331) t328.length co14 : Value).ownBlock)) (by (with_reducible repeat (first | apply Kd.R_alloc | apply Kd.R_drewN | apply Kd.R_drew)); exact Kd.R_mono HO335.out (fun _ hk => ⟨⟨hk.1.1.1, hk.1.2⟩, hk.2⟩)) hg hat); have n3_ := asd (hb); have n4_ := asd (Kept.of_grown (S := (fun k_ => P1_ k_)) hg (by repeat (first | (with_reducible first | exact HK.out | apply Kept.alloc | apply Kept.drewN | apply Kept.drew | refine Kept.setCell ?_ (.inr GW327.out) _) | exact HK.out)) (fun k_ e_ => (HO338.out.1 k_ e_).1.1.1)); have n5_ := asd (ho); clear HO_1; clear BK327; clear HO335; clear HB; clear HK; clear HO338; have HO_1 := n0_; have BK327 := n1_; have HO335 := n2_; have HB := n3_; have HK := n4_; have HO341 := n5_; clear n0_ n1_ n2_ n3_ n4_ n5_; clear ho hb hg hat; obtain ⟨Ao30, co30, eo30⟩ := Kd.R_slice HO341.out; subst eo30; have hcz31_0 : w28.cell? ⟨gb327, 0, none⟩ = some (.bool false) := (blk_cell BK327.out 0).trans rfl; have hcz31_1 : w28.cell? ⟨gb327, 1, none⟩ = some (.slice none 0 0) := (blk_cell BK327.out 1).trans rfl; have hcz31_2 : w28.cell? ⟨gb327, 2, none⟩ = some (.int .i64 0) := (blk_cell BK327.out 2).trans rfl; have hfz31_0 := blk_frozen BK327.out 0; have hfz31_1 := blk_frozen BK327.out 1; have hfz31_2 := blk_frozen BK327.out 2))
          refine bodyPost_ret (results_cell_row rfl _ _ gb327 41 #[.bool a0, .slice Ao30 y339.length co30, .int .i64 (wrap64 (a2 + x7_1))] (0, 0) _ rfl (by (with_reducible repeat (first | refine blk_drewN ?_ _ | refine blk_drew ?_ | refine blk_alloc ?_ _)); refine blk_put (cs := #[.bool a0, .slice Ao30 y339.length co30, .int .i64 0]) ?_ 2 _ rfl; (with_reducible repeat (first | refine blk_drewN ?_ _ | refine blk_drew ?_ | refine blk_alloc ?_ _)); refine blk_put (cs := #[.bool a0, .slice none 0 0, .int .i64 0]) ?_ 1 _ rfl; (with_reducible repeat (first | refine blk_drewN ?_ _ | refine blk_drew ?_ | refine blk_alloc ?_ _)); refine blk_put (cs := #[.bool false, .slice none 0 0, .int .i64 0]) ?_ 0 _ rfl; (with_reducible repeat (first | refine blk_drewN ?_ _ | refine blk_drew ?_ | refine blk_alloc ?_ _)); exact BK327.out) Tryz.underlying41 rfl (by kernel_rfl)) rfl ?_
          exact ⟨_, by first | rfl | (simp [errW_none, errW_some] <;> rfl) | (simp only [← hji15, ← hji18, ← hji20]; first | rfl | (simp [errW_none, errW_some] <;> rfl)) | (simp [*, errW_none, errW_some] <;> rfl), by (with_reducible repeat (first | apply Kd.R_alloc | apply Kd.R_drewN | apply Kd.R_drew)); exact Kd.R_mono (Kd.R_far (p := ⟨gb327, 2, none⟩) (Kd.R_far (p := ⟨gb327, 1, none⟩) (Kd.R_far (p := ⟨gb327, 0, none⟩) (Kd.R_types HO341.out BK327.out (by decide)) (fun _ hk => hk.2) (.bool a0)) (fun _ hk => hk.2) (.slice Ao30 y339.length co30)) (fun _ hk => hk.2) (.int .i64 (wrap64 (a2 + x7_1)))) (fun _ hk => hk.1.1), by repeat (first | (with_reducible first | exact HB.out | apply below_alloc | apply pw_below_drewN | apply below_drew1 | refine below_set ?_ GE327.out) | exact HB.out), by repeat (first | (with_reducible first | exact HK.out | apply Kept.alloc | apply Kept.drewN | apply Kept.drew | refine Kept.setCell ?_ (.inr GW327.out) _) | exact HK.out)⟩
         ·rw [if_neg c24] at H
          exact absurd H (by simp)
        ·rw [if_neg c23] at H
         exact absurd H (by simp)
      ·rw [if_neg c19] at H
       exact absurd H (by simp)
     ·rw [if_neg c17] at H
      exact absurd H (by simp)
    ·rw [if_neg c16] at H
     exact absurd H (by simp)
end Go.Proofs.YthmeocigliephaaGreatDoor.PSu
end
section
namespace Go.Proofs.YthmeocigliephaaGreatDoor.Plain
open Go.Proofs.YthmeocigliephaaGreatDoor.PSu Go.Proofs.YthmeocigliephaaGreatDoor.Big
theorem getD_zero {l : List Int} {i d : Nat} (h : ¬ i < l.length) (hd : l.getD i 0 = (d : Int)) : d = 0 := by
  rw [List.getD_eq_getElem?_getD, List.getElem?_eq_none (by omega)] at hd; simp at hd; omega
theorem rsum_step (k : Nat) (p q x : List Int) (i c pd qd : Nat) (hc : c ≤ 1) (hpd : p.getD i 0 = (pd : Int)) (hp1 : pd < 4294967296) (hqd : q.getD i 0 = (qd : Int)) (hq1 : qd < 4294967296) (hx : x.length < 35184372088832) (hi : i < p.length ∨ i < q.length) (hb : i < 4611686018427387904) :
    cuspref02_sum.l0 (k + 1 + 1) p q x (c : Int) (i : Int) = cuspref02_sum.l0 k p q (x ++ [(((c + pd + qd) % 4294967296 : Nat) : Int)]) (((c + pd + qd) / 4294967296 : Nat) : Int) ((i + 1 : Nat) : Int) := by
  have e1 : IntKind.u64.wrap ((c : Int) + IntKind.u64.wrap (pd : Int)) = ((c + pd : Nat) : Int) := by rw [u64_of (x := (pd : Int)) (by omega) (by omega), u64_of (by omega) (by omega)]; omega
  have e2 : IntKind.u64.wrap (((c + pd : Nat) : Int) + IntKind.u64.wrap (qd : Int)) = ((c + pd + qd : Nat) : Int) := by rw [u64_of (x := (qd : Int)) (by omega) (by omega), u64_of (by omega) (by omega)]; omega
  have e3 : IntKind.u64.wrap ((c : Int) + IntKind.u64.wrap (qd : Int)) = ((c + qd : Nat) : Int) := by rw [u64_of (x := (qd : Int)) (by omega) (by omega), u64_of (by omega) (by omega)]; omega
  rw [cuspref02_sum.l0]
  by_cases h1 : i < p.length
  · rw [if_pos (by omega), cuspref02_sum.j1, if_pos rfl, if_pos (by omega), if_pos (by omega), rd_nat, hpd, e1]
    by_cases h2 : i < q.length
    · rw [if_pos (by omega), if_pos hx, rd_nat, hqd, e2, w64_succ hb,
        show ((c + pd + qd : Nat) : Int) % 4294967296 = (((c + pd + qd) % 4294967296 : Nat) : Int) from by omega, show ((c + pd + qd : Nat) : Int) / 4294967296 = (((c + pd + qd) / 4294967296 : Nat) : Int) from by omega]
    · have := getD_zero h2 hqd
      subst this
      rw [if_neg (by omega), if_pos hx, w64_succ hb,
        show ((c + pd : Nat) : Int) % 4294967296 = (((c + pd + 0) % 4294967296 : Nat) : Int) from by omega, show ((c + pd : Nat) : Int) / 4294967296 = (((c + pd + 0) / 4294967296 : Nat) : Int) from by omega]
  · have := getD_zero h1 hpd
    subst this
    have h2 : i < q.length := by omega
    rw [if_neg (by omega), cuspref02_sum.j1, if_pos (by simp; omega), if_neg (by omega), if_pos (by omega), if_pos (by omega), if_pos hx, rd_nat, hqd, e3, w64_succ hb,
      show ((c + qd : Nat) : Int) % 4294967296 = (((c + 0 + qd) % 4294967296 : Nat) : Int) from by omega, show ((c + qd : Nat) : Int) / 4294967296 = (((c + 0 + qd) / 4294967296 : Nat) : Int) from by omega]
theorem rsum_ev (p q : List Int) (hp : Nrm p) (hq : Nrm q) (M : Nat) (hM : M = if p.length < q.length then q.length else p.length) (hb : M < 35184372088830) :
    ∀ (d i c : Nat) (x : List Int), d = M - i → i ≤ M → x.length = i → Dg x → c ≤ 1 → val x + 2 ^ (32 * i) * c = val (p.take i) + val (q.take i) →
      Ev (fun k => cuspref02_sum.l0 k p q x (c : Int) (i : Int)) (dig (val p + val q)) := by
  have hpM : p.length ≤ M := by rw [hM]; split <;> omega
  have hqM : q.length ≤ M := by rw [hM]; split <;> omega
  have hor : M = p.length ∨ M = q.length := by rw [hM]; split <;> omega
  intro d
  induction d with
  | zero =>
    intro i c x hd hi hx hdx hc hv
    have hi' : i = M := by omega
    subst hi'
    rw [List.take_of_length_le hpM, List.take_of_length_le hqM] at hv
    have hstop : ∀ k, cuspref02_sum.l0 (k + 1 + 1) p q x (c : Int) (i : Int) = if (c : Int) > 0 then (if x.length < 35184372088832 then some (x ++ [(c : Int) % 4294967296]) else none) else some x := by
      intro k
      rw [cuspref02_sum.l0, if_neg (by omega), cuspref02_sum.j1, if_neg (by simp; omega)]
    by_cases h0 : c = 0
    · subst h0
      have e : dig (val p + val q) = x := by
        rw [← hv, Nat.mul_zero, Nat.add_zero]
        refine (dig_of_ge hdx (fun hn => ?_)).symm
        have hxp : 0 < x.length := List.length_pos_iff.2 hn
        rcases hor with h | h
        · have := le_of_dig_length (n := val p) (k := x.length - 1) (by rw [dig_val hp]; omega)
          omega
        · have := le_of_dig_length (n := val q) (k := x.length - 1) (by rw [dig_val hq]; omega)
          omega
      rw [e]
      refine Ev.step (f := fun k => cuspref02_sum.l0 (k + 1) p q x ((0 : Nat) : Int) (i : Int)) (fun k => rfl) (Ev.step (f := fun _ => some x) (fun k => ?_) (Ev.now _))
      rw [hstop, if_neg (by omega)]
    · obtain rfl : c = 1 := by omega
      have e : dig (val p + val q) = x ++ [((1 : Nat) : Int)] := by
        rw [← hv, show val x + 2 ^ (32 * i) * 1 = val (x ++ [((1 : Nat) : Int)]) by rw [val_snoc, hx]; rfl]
        exact dig_val (nrm_snoc hdx (by omega) (by omega))
      rw [e]
      refine Ev.step (f := fun k => cuspref02_sum.l0 (k + 1) p q x ((1 : Nat) : Int) (i : Int)) (fun k => rfl) (Ev.step (f := fun _ => some (x ++ [((1 : Nat) : Int)])) (fun k => ?_) (Ev.now _))
      rw [hstop, if_pos (by omega), if_pos (by omega)]
      rfl
  | succ d ih =>
    intro i c x hd hi hx hdx hc hv
    obtain ⟨pd, hpd, hp1⟩ := hp.1.nat i
    obtain ⟨qd, hqd, hq1⟩ := hq.1.nat i
    have tp := val_take_succ' p i
    have tq := val_take_succ' q i
    rw [hpd, Int.toNat_natCast] at tp
    rw [hqd, Int.toNat_natCast] at tq
    have hnew : ∀ s : Nat, s = c + pd + qd → val (x ++ [((s % 4294967296 : Nat) : Int)]) + 2 ^ (32 * (i + 1)) * (s / 4294967296) = val (p.take (i + 1)) + val (q.take (i + 1)) := by
      intro s hs
      rw [val_snoc, hx, tp, tq, Int.toNat_natCast, pow32_succ]
      have h1 : 2 ^ (32 * i) * (s % 4294967296) + 4294967296 * 2 ^ (32 * i) * (s / 4294967296) = 2 ^ (32 * i) * s := by
        rw [Nat.mul_comm 4294967296, Nat.mul_assoc, ← Nat.mul_add]; congr 1; omega
      have h2 : 2 ^ (32 * i) * s = 2 ^ (32 * i) * c + 2 ^ (32 * i) * pd + 2 ^ (32 * i) * qd := by rw [hs, Nat.mul_add, Nat.mul_add]
      omega
    have h := ih (i + 1) ((c + pd + qd) / 4294967296) (x ++ [(((c + pd + qd) % 4294967296 : Nat) : Int)]) (by omega) (by omega) (by simp [hx]) (hdx.append (Dg.one (by omega) (by omega))) (by omega) (hnew _ rfl)
    refine Ev.step (f := fun k => cuspref02_sum.l0 (k + 1) p q x (c : Int) (i : Int)) (fun k => rfl) (Ev.step (fun k => ?_) h)
    exact rsum_step k p q x i c pd qd hc hpd hp1 hqd hq1 (by omega) (by omega) (by omega)
theorem rsum_law (a b : Nat) (ha : (dig a).length < 35184372088830) (hb : (dig b).length < 35184372088830) : Ev (fun k => cuspref02_sum.f k (dig a) (dig b)) (dig (a + b)) := by
  have h := rsum_ev (dig a) (dig b) (nrm_dig a) (nrm_dig b) _ rfl (by split <;> omega) _ 0 0 [] rfl (by omega) rfl Dg.nil (by omega) (by simp)
  rw [val_dig, val_dig] at h
  exact h
theorem bit_at (v i : Nat) : v / 2 ^ (32 * (i / 32)) % 4294967296 / 2 ^ (i % 32) % 2 = v / 2 ^ i % 2 := by
  have h1 : (4294967296 : Nat) = 2 ^ (i % 32) * (2 * 2 ^ (31 - i % 32)) := by
    rw [← Nat.pow_succ', ← Nat.pow_add, show i % 32 + (31 - i % 32).succ = 32 by omega]
  have h2 : v / 2 ^ i = v / 2 ^ (32 * (i / 32)) / 2 ^ (i % 32) := by rw [Nat.div_div_eq_div_mul, ← Nat.pow_add]; congr 2; omega
  rw [h2, h1, Nat.mod_mul_right_div_self, Nat.mod_mul_right_mod]
theorem low_bit (v i : Nat) (h0 : v ≠ 0) (hi : i ≤ tz v) : (v / 2 ^ i % 2 = 0 ↔ i < tz v) := by
  obtain ⟨m, hm⟩ := tz_spec h0
  have hp : 0 < 2 ^ i := Nat.pow_pos (by omega)
  have e : v / 2 ^ i = 2 ^ (tz v - i) * (2 * m + 1) := by
    have : v = 2 ^ i * (2 ^ (tz v - i) * (2 * m + 1)) := by rw [← Nat.mul_assoc, ← Nat.pow_add, show i + (tz v - i) = tz v by omega]; exact hm
    exact Nat.div_eq_of_eq_mul_right hp this
  rw [e]
  constructor
  · intro h
    rcases Nat.lt_or_ge i (tz v) with h1 | h1
    · exact h1
    · rw [show tz v - i = 0 by omega, Nat.pow_zero] at h; omega
  · intro h
    rw [show tz v - i = (tz v - i - 1) + 1 by omega, Nat.pow_succ, Nat.mul_comm (2 ^ (tz v - i - 1)) 2, Nat.mul_assoc]; omega
theorem rnorm_ev (neg : Bool) (v : Nat) (e : Int) (h0 : v ≠ 0) (hb : (dig v).length < 1000000) (he : -4000000000 ≤ e) (he1 : e ≤ 4000000000) :
    ∀ d i : Nat, i + d = tz v → Ev (fun k => cuspref02_norm.l0 k neg (dig v) e (i : Int)) (neg, dig (v / 2 ^ tz v), e + tz v) := by
  have htz : tz v < 32 * (dig v).length := by
    have h1 := tz_le h0
    have h2 := lt_dig_length v
    exact (Nat.pow_lt_pow_iff_right (by omega)).1 (Nat.lt_of_le_of_lt h1 h2)
  have hdl : (dig (v / 2 ^ tz v)).length ≤ (dig v).length := dig_length_mono (Nat.div_le_self _ _)
  intro d
  induction d with
  | zero =>
    intro i hi
    have hi' : i = tz v := by omega
    subst hi'
    have ew : wrap64 (Int.tdiv ((tz v : Nat) : Int) 32) = ((tz v / 32 : Nat) : Int) := by
      rw [Int.tdiv_eq_ediv_of_nonneg (by omega), show (((tz v : Nat) : Int) / 32) = ((tz v / 32 : Nat) : Int) by omega, w64_nat (by omega)]
    have em : IntKind.u64.wrap (Int.tmod ((tz v : Nat) : Int) 32) = ((tz v % 32 : Nat) : Int) := by rw [Int.tmod_eq_emod_of_nonneg (by omega), u64_of (by omega) (by omega)]; omega
    obtain ⟨g, hg, hg1⟩ := (dg_dig v).nat (tz v / 32)
    have hgv := val_get (dg_dig v) (tz v / 32)
    rw [hg, Int.toNat_natCast, val_dig] at hgv
    have hbit := bit_at v (tz v)
    rw [← hgv] at hbit
    have hb1 : g / 2 ^ (tz v % 32) % 2 = 1 := by
      rw [hbit]
      have : v / 2 ^ tz v % 2 ≠ 0 := fun h => Nat.lt_irrefl _ ((low_bit v (tz v) h0 (Nat.le_refl _)).1 h)
      omega
    have hsh : bits .and .u32 (shr .u32 (g : Int) ((tz v % 32 : Nat) : Int)) 1 = 1 := by
      have hmin' : min (((tz v % 32 : Nat) : Int)).toNat IntKind.u32.bits = tz v % 32 := by simp [IntKind.bits]; omega
      unfold shr
      rw [hmin', show ((2 : Int) ^ (tz v % 32)) = ((2 ^ (tz v % 32) : Nat) : Int) by rw [Int.natCast_pow]; rfl, ← Int.natCast_ediv, bits_and1_u32 _ (Nat.lt_of_le_of_lt (Nat.div_le_self _ _) hg1), hb1]; rfl
    have hd := rdown_law v (tz v) (by omega) (by omega)
    refine Ev.step (f := fun k => (cuspref02_down.f k (dig v) ((tz v : Nat) : Int)).bind fun bt => some (neg, [] ++ bt.1, e + tz v)) (fun k => ?_) (Ev.bind hd (Ev.now _))
    rw [cuspref02_norm.l0, ew, if_pos (by omega), if_pos (by omega), em, if_pos (by omega), rd_nat, hg, if_neg (by rw [hsh]; omega)]
    rcases hq : cuspref02_down.f k (dig v) ((tz v : Nat) : Int) with _ | ⟨u1, u2⟩
    · rfl
    · rw [Option.bind_some, Option.bind_some, if_pos (by omega), Option.bind_some, List.replicate_zero]
      have hk : u1 = dig (v / 2 ^ tz v) := by
        have h1 := hd
        obtain ⟨K, hK⟩ := h1
        have hmono := at_rounds (g := fun k => cuspref02_down.f k (dig v) ((tz v : Nat) : Int)) (fun k => cuspref02_down.mono _ _ k) (Nat.le_max_left k K) hq
        have hK2 : cuspref02_down.f (max k K) (dig v) ((tz v : Nat) : Int) = some (dig (v / 2 ^ tz v), decide (v % 2 ^ tz v = 0)) := hK _ (Nat.le_max_right k K)
        have := Option.some.inj (hK2.symm.trans hmono)
        exact (Prod.mk.inj this).1.symm
      rw [hk, if_pos (by simp; omega), w64_of (by omega) (by omega)]
  | succ d ih =>
    intro i hi
    have ew : wrap64 (Int.tdiv ((i : Nat) : Int) 32) = ((i / 32 : Nat) : Int) := by
      rw [Int.tdiv_eq_ediv_of_nonneg (by omega), show (((i : Nat) : Int) / 32) = ((i / 32 : Nat) : Int) by omega, w64_nat (by omega)]
    have em : IntKind.u64.wrap (Int.tmod ((i : Nat) : Int) 32) = ((i % 32 : Nat) : Int) := by rw [Int.tmod_eq_emod_of_nonneg (by omega), u64_of (by omega) (by omega)]; omega
    obtain ⟨g, hg, hg1⟩ := (dg_dig v).nat (i / 32)
    have hgv := val_get (dg_dig v) (i / 32)
    rw [hg, Int.toNat_natCast, val_dig] at hgv
    have hbit := bit_at v i
    rw [← hgv] at hbit
    have hb1 : g / 2 ^ (i % 32) % 2 = 0 := by rw [hbit]; exact (low_bit v i h0 (by omega)).2 (by omega)
    have hsh : bits .and .u32 (shr .u32 (g : Int) ((i % 32 : Nat) : Int)) 1 = 0 := by
      have hmin' : min (((i % 32 : Nat) : Int)).toNat IntKind.u32.bits = i % 32 := by simp [IntKind.bits]; omega
      unfold shr
      rw [hmin', show ((2 : Int) ^ (i % 32)) = ((2 ^ (i % 32) : Nat) : Int) by rw [Int.natCast_pow]; rfl, ← Int.natCast_ediv, bits_and1_u32 _ (Nat.lt_of_le_of_lt (Nat.div_le_self _ _) hg1), hb1]; rfl
    refine Ev.step (fun k => ?_) (ih (i + 1) (by omega))
    rw [cuspref02_norm.l0, ew, if_pos (by omega), if_pos (by omega), em, if_pos (by omega), rd_nat, hg, if_pos hsh, w64_succ (by omega)]
theorem rnorm_law (neg : Bool) (l : List Int) (e : Int) (hd : Dg l) (hb : l.length < 1000000) (he : -4000000000 ≤ e) (he1 : e ≤ 4000000000) :
    Ev (fun k => cuspref02_norm.f k neg l e) (canN (if neg = true then -(val l : Int) else val l) e) := by
  unfold cuspref02_norm.f
  refine Ev.bind (rtrim_law hd (by omega)) ?_
  by_cases h0 : val l = 0
  · rw [h0, dig_zero]
    have : (if neg = true then -((0 : Nat) : Int) else ((0 : Nat) : Int)) = 0 := by cases neg <;> rfl
    rw [this, canN_zero]
    exact Ev.congr (fun k => if_pos rfl) (Ev.now _)
  · have hne := dig_ne h0
    have hl : (dig (val l)).length ≠ 0 := fun h => hne (List.length_eq_zero_iff.1 h)
    have hll := dig_length_le_of hd
    have hz : (if neg = true then -(val l : Int) else (val l : Int)) ≠ 0 := by cases neg <;> simp <;> omega
    have hna : (if neg = true then -(val l : Int) else (val l : Int)).natAbs = val l := by cases neg <;> simp
    have hlt : decide ((if neg = true then -(val l : Int) else (val l : Int)) < 0) = neg := by
      cases neg
      · simp
      · simp; omega
    rw [canN_ne hz, hna, hlt]
    exact Ev.congr (fun k => if_neg (by omega)) (rnorm_ev neg (val l) e h0 (by omega) he he1 (tz (val l)) 0 (by omega))
end Go.Proofs.YthmeocigliephaaGreatDoor.Plain
end
section
namespace Go.Proofs.YthmeocigliephaaGreatDoor.Big
open Go.Proofs.YthmeocigliephaaGreatDoor.PSu Go.Proofs.YthmeocigliephaaGreatDoor.Plain
attribute [local go_sem] max2_int min2_int max_two min_two
def RetR (r : Bool × List Int × Int) (w : World) (e : Ending) (w' : World) : Prop :=
  ∃ v1_ : Value, e = .returned (.agg #[.bool r.1, v1_, .int .i64 r.2.2]) ∧ Kd.R (Kd.int .u32) 83 w' w.heap.size (fun _ => True) v1_ r.2.1 ∧ Below w.heap.size w w'
structure PlW (W0 W : World) (na : Bool) (la : List Int) (ea : Int) (A : Option Addr) (c : Nat) (nb : Bool) (lb : List Int) (eb : Int) (B : Option Addr) (d : Nat) : Prop where
  a : RB W W0.heap.size na (.slice A la.length c) ea
  b : RB W (W0.heap.size + 1) nb (.slice B lb.length d) eb
  r : RB W (W0.heap.size + 1 + 1) false (.slice none 0 0) 0
  ra : Kd.C (Kd.int .u32) W A la.length la
  rb : Kd.C (Kd.int .u32) W B lb.length lb
  keep : Below W0.heap.size W0 W
section
variable {W0 W W' : World} {na : Bool} {la : List Int} {ea : Int} {A : Option Addr} {c : Nat} {nb : Bool} {lb : List Int} {eb : Int} {B : Option Addr} {d : Nat}
theorem PlW.step (h : PlW W0 W na la ea A c nb lb eb B d) (k : Below W.heap.size W W') : PlW W0 W' na la ea A c nb lb eb B d :=
  ⟨h.a.below k, h.b.below k, h.r.below k, Kd.C_below h.ra k, Kd.C_below h.rb k, below_post k h.keep⟩
theorem plW_new (ha : Kd.C (Kd.int .u32) W0 A la.length la) (hb : Kd.C (Kd.int .u32) W0 B lb.length lb) :
    PlW W0 (((W0.alloc (.cells #[.bool na, .slice A la.length c, .int .i64 ea] 41 (0, 0))).alloc (.cells #[.bool nb, .slice B lb.length d, .int .i64 eb] 41 (0, 0))).alloc (.cells #[.bool false, .slice none 0 0, .int .i64 0] 41 (0, 0))) na la ea A c nb lb eb B d := by
  have b3 := (((Below.refl W0.heap.size W0).alloc (Nat.le_refl _) (.cells #[.bool na, .slice A la.length c, .int .i64 ea] 41 (0, 0))).alloc (by simp) (.cells #[.bool nb, .slice B lb.length d, .int .i64 eb] 41 (0, 0))).alloc (by simp; omega) (.cells #[.bool false, .slice none 0 0, .int .i64 0] 41 (0, 0))
  have e1 : ∀ (w : World) (o : Obj) (n : Bool) (v : Value) (e : Int), RB ((w.alloc o).alloc (.cells #[.bool n, v, .int .i64 e] 41 (0, 0))) (w.heap.size + 1) n v e := fun w o n v e => by
    unfold RB; rw [show w.heap.size + 1 = (w.alloc o).heap.size by simp]; exact blk_new _ _
  refine ⟨blk_alloc (blk_alloc (blk_new _ _) _) _, blk_alloc (e1 _ _ _ _ _) _, ?_, Kd.C_below ha b3, Kd.C_below hb b3, b3⟩
  have := e1 (W0.alloc (.cells #[.bool na, .slice A la.length c, .int .i64 ea] 41 (0, 0))) (.cells #[.bool nb, .slice B lb.length d, .int .i64 eb] 41 (0, 0)) false (.slice none 0 0) 0
  rwa [show (W0.alloc (.cells #[.bool na, .slice A la.length c, .int .i64 ea] 41 (0, 0))).heap.size = W0.heap.size + 1 by simp] at this
end
section
variable (na : Bool) (la : List Int) (ea : Int) (A : Option Addr) (c : Nat) (nb : Bool) (lb : List Int) (eb : Int) (B : Option Addr) (d : Nat) (w : World)
  (ha : Kd.C (Kd.int .u32) w A la.length la) (hc : la.length ≤ c) (hb : Kd.C (Kd.int .u32) w B lb.length lb) (hd : lb.length ≤ d)
include ha hc hb hd
theorem plus_a0 (hla : la.length = 0) (hlb : lb.length < 35184372088832) :
    Calls Tryz.prog 25 #[.agg #[.bool na, .slice A la.length c, .int .i64 ea], .agg #[.bool nb, .slice B lb.length d, .int .i64 eb]] w (RetR (nb, lb, eb) w) := by
  have T0 := asd (plW_new (na := na) (ea := ea) (c := c) (nb := nb) (eb := eb) (d := d) ha hb)
  have HC := asd hc
  have HD := asd hd
  have z0 : (((la.length : Nat) : Int) == 0) = true := by rw [hla]; rfl
  have TW := asd (show cuspref02_twin.f nb lb eb = some (nb, lb, eb) by unfold cuspref02_twin.f; rw [if_pos (by simp; omega)]; rfl)
  clear ha hc hb hd hla
  go_enter Tryz.func25, Tryz.ntmps25
  go_wp2_with (first
    | (go_at_call 63; refine (cuspref02_twin.calls nb B d lb eb nb lb eb _ T0.out.rb HD.out TW.out).mono ?_; rintro e1 w1 ⟨u, rfl, r1, d1⟩; obtain ⟨Au, cu, hu⟩ := Kd.R_slice r1; subst hu; have T1 := asd (T0.out.step d1); have q0 := T1.out.r.c0; have q1 := T1.out.r.c1; have q2 := T1.out.r.c2; have q3 := T1.out.r.fr 0; have q4 := T1.out.r.fr 1; have q5 := T1.out.r.fr 2; have R1 := asd r1; have ltr := asd (blk_lt T0.out.r); clear d1 r1))
  refine bodyPost_ret (v := .agg #[.bool nb, .slice Au lb.length cu, .int .i64 eb]) (by simp [results, Tryz.results25, go_sem, q0, q1, q2, q3, q4, q5]) rfl ?_
  have lt := ltr.out
  exact ⟨_, rfl, Kd.R_lower (r_set (r_set (r_set R1.out _ (by first | (simp; done) | simpa using lt) _) _ (by first | (simp; done) | simpa using lt) _) _ (by first | (simp; done) | simpa using lt) _) T0.out.keep.size, ((T1.out.keep.setCell (by simp; omega) _).setCell (by simp; omega) _).setCell (by simp; omega) _⟩
theorem plus_b0 (hla : la.length ≠ 0) (hlb : lb.length = 0) (hla2 : la.length < 35184372088832) :
    Calls Tryz.prog 25 #[.agg #[.bool na, .slice A la.length c, .int .i64 ea], .agg #[.bool nb, .slice B lb.length d, .int .i64 eb]] w (RetR (na, la, ea) w) := by
  have T0 := asd (plW_new (na := na) (ea := ea) (c := c) (nb := nb) (eb := eb) (d := d) ha hb)
  have HC := asd hc
  have HD := asd hd
  have z0 : (((la.length : Nat) : Int) == 0) = false := by rw [beq_eq_false_iff_ne]; omega
  have z1 : (((lb.length : Nat) : Int) == 0) = true := by rw [hlb]; rfl
  have TW := asd (show cuspref02_twin.f na la ea = some (na, la, ea) by unfold cuspref02_twin.f; rw [if_pos (by simp; omega)]; rfl)
  clear ha hc hb hd hla hlb
  go_enter Tryz.func25, Tryz.ntmps25
  go_wp2_with (first
    | (go_at_call 63; refine (cuspref02_twin.calls na A c la ea na la ea _ T0.out.ra HC.out TW.out).mono ?_; rintro e1 w1 ⟨u, rfl, r1, d1⟩; obtain ⟨Au, cu, hu⟩ := Kd.R_slice r1; subst hu; have T1 := asd (T0.out.step d1); have q0 := T1.out.r.c0; have q1 := T1.out.r.c1; have q2 := T1.out.r.c2; have q3 := T1.out.r.fr 0; have q4 := T1.out.r.fr 1; have q5 := T1.out.r.fr 2; have R1 := asd r1; have ltr := asd (blk_lt T0.out.r); clear d1 r1))
  refine bodyPost_ret (v := .agg #[.bool na, .slice Au la.length cu, .int .i64 ea]) (by simp [results, Tryz.results25, go_sem, q0, q1, q2, q3, q4, q5]) rfl ?_
  have lt := ltr.out
  exact ⟨_, rfl, Kd.R_lower (r_set (r_set (r_set R1.out _ (by first | (simp; done) | simpa using lt) _) _ (by first | (simp; done) | simpa using lt) _) _ (by first | (simp; done) | simpa using lt) _) T0.out.keep.size, ((T1.out.keep.setCell (by simp; omega) _).setCell (by simp; omega) _).setCell (by simp; omega) _⟩
theorem plus_same (k1 k2 k3 k4 k5 : Nat) (ua ub us : List Int) (E : Int) (hE : (if eb < ea then eb else ea) = E) (hla : la.length ≠ 0) (hlb : lb.length ≠ 0) (he0 : -10000000 ≤ ea) (he1 : ea ≤ 10000000) (he2 : -10000000 ≤ eb) (he3 : eb ≤ 10000000) (hu1 : cuspref02_up.f k1 la (ea - E) = some ua) (hu2 : cuspref02_up.f k2 lb (eb - E) = some ub) (r1 : Bool) (r2 : List Int) (r3 : Int) (hab : na = nb) (hs : cuspref02_sum.f k4 ua ub = some us) (hn : cuspref02_norm.f k5 na us E = some (r1, r2, r3)) :
    Calls Tryz.prog 25 #[.agg #[.bool na, .slice A la.length c, .int .i64 ea], .agg #[.bool nb, .slice B lb.length d, .int .i64 eb]] w (RetR (r1, r2, r3) w) := by
  have T0 := asd (plW_new (na := na) (ea := ea) (c := c) (nb := nb) (eb := eb) (d := d) ha hb)
  have HC := asd hc
  have HD := asd hd
  have z0 : (((la.length : Nat) : Int) == 0) = false := by rw [beq_eq_false_iff_ne]; omega
  have z1 : (((lb.length : Nat) : Int) == 0) = false := by rw [beq_eq_false_iff_ne]; omega
  have hEa : E ≤ ea ∧ E ≤ eb ∧ -10000000 ≤ E := by rw [← hE]; split <;> omega
  obtain ⟨hEa1, hEa2, hEa3⟩ := hEa
  have U1 := asd hu1
  have U2 := asd hu2
  have S1 := asd hs
  have N1 := asd hn
  have tok1 : True := trivial
  have hab1 : (na == nb) = true := by rw [hab]; cases nb <;> rfl
  clear ha hc hb hd hla hlb hu1 hu2 hs hn hab
  go_enter Tryz.func25, Tryz.ntmps25
  go_upto_region 9 with (first
    | (go_at_call 64; have _t := tok1; refine (cuspref02_up.calls k1 A c la (ea - E) ua _ T0.out.ra HC.out U1.out).mono ?_; rintro e1 w4 ⟨v4, rfl, r4, d4⟩; obtain ⟨A4, c4, hv4⟩ := Kd.R_slice r4; subst hv4; have R4 := asd (Kd.R_reads' r4); have T4 := asd (T0.out.step d4); have a40 := T4.out.a.c0; have a41 := T4.out.a.c1; have a42 := T4.out.a.c2; have b40 := T4.out.b.c0; have b41 := T4.out.b.c1; have b42 := T4.out.b.c2; have r40 := T4.out.r.c0; have r41 := T4.out.r.c1; have r42 := T4.out.r.c2; clear d4 r4 _t tok1)
    | (go_at_call 64; refine (cuspref02_up.calls k2 B d lb (eb - E) ub _ T4.out.rb HD.out U2.out).mono ?_; rintro e1 w5 ⟨v5, rfl, r5, d5⟩; obtain ⟨A5, c5, hv5⟩ := Kd.R_slice r5; subst hv5; have R5 := asd (Kd.R_reads' r5); have C4 := asd (Kd.C_below R4.out.2.2 d5); have T5 := asd (T4.out.step d5); have a50 := T5.out.a.c0; have a51 := T5.out.a.c1; have a52 := T5.out.a.c2; have b50 := T5.out.b.c0; have b51 := T5.out.b.c1; have b52 := T5.out.b.c2; have r50 := T5.out.r.c0; have r51 := T5.out.r.c1; have r52 := T5.out.r.c2; clear d5 r5))
  go_region_held3 (fun w' => w'.cell? ⟨w.heap.size, 0, none⟩ = some (.bool na))
    (first | exact a50 | exact S8.out | exact S7.out | (have _s := S8; exact (set3_cell _ _ _ _ _ _ _ (by omega)).trans S8.out) | go_keep)
    ((first
      | (go_at_call 66; refine (cuspref02_sum.calls k4 A4 c4 ua A5 c5 ub us _ (Kd.C_below C4.out (by first | exact Below.refl _ _ | exact (Below.refl _ _).drew)) R4.out.2.1 (Kd.C_below R5.out.2.2 (by first | exact Below.refl _ _ | exact (Below.refl _ _).drew)) R5.out.2.1 S1.out).mono ?_; rintro e1 w7 ⟨v7, rfl, r7, d7⟩; have B7 := asd (show Below w5.heap.size w5 w7 from below_post d7 (by first | exact Below.refl _ _ | exact (Below.refl _ _).drew)); have R7 := asd (show Kd.R (Kd.int .u32) 83 w7 w5.heap.size (fun _ => True) v7 us from r7); have T7 := asd (T5.out.step B7.out); have S7 := asd (show w7.cell? ⟨w.heap.size, 0, none⟩ = some (.bool na) from T7.out.a.c0); clear d7 r7)
      | (go_at_call 65; refine (cuspref02_norm.calls k5 na (fun _ => True) _ us E r1 r2 r3 w5 _ (below_post (by first | exact Below.refl _ _ | exact (Below.refl _ _).drew) B7.out) (by first | exact R7.out | exact Kd.R_drew R7.out) N1.out).mono ?_; rintro e1 w8 ⟨v8, rfl, r8, d8, _⟩; obtain ⟨Au, cu, hu⟩ := Kd.R_slice r8; subst hu; have T8 := asd (T5.out.step d8); have R8 := asd (Kd.R_mono r8 (fun _ _ => (trivial : True))); have ltr := asd (blk_lt T5.out.r); have q0 := T8.out.r.c0; have q1 := T8.out.r.c1; have q2 := T8.out.r.c2; have q3 := T8.out.r.fr 0; have q4 := T8.out.r.fr 1; have q5 := T8.out.r.fr 2; have S8 := asd (show w8.cell? ⟨w.heap.size, 0, none⟩ = some (.bool na) from T8.out.a.c0); clear d8 r8)))
  all_goals
    go_wp2
    refine bodyPost_ret (v := .agg #[.bool r1, .slice Au r2.length cu, .int .i64 r3]) (by simp [results, Tryz.results25, go_sem, q0, q1, q2, q3, q4, q5]) rfl ?_
    have lt := ltr.out
    exact ⟨_, rfl, Kd.R_lower (r_set (r_set (r_set R8.out _ (by first | (simp; done) | simpa using lt) _) _ (by first | (simp; done) | simpa using lt) _) _ (by first | (simp; done) | simpa using lt) _) T5.out.keep.size, ((T8.out.keep.setCell (by simp; omega) _).setCell (by simp; omega) _).setCell (by simp; omega) _⟩
theorem plus_lt (k1 k2 k3 k4 k5 : Nat) (ua ub us : List Int) (E : Int) (hE : (if eb < ea then eb else ea) = E) (hla : la.length ≠ 0) (hlb : lb.length ≠ 0) (he0 : -10000000 ≤ ea) (he1 : ea ≤ 10000000) (he2 : -10000000 ≤ eb) (he3 : eb ≤ 10000000) (hu1 : cuspref02_up.f k1 la (ea - E) = some ua) (hu2 : cuspref02_up.f k2 lb (eb - E) = some ub) (r1 : Bool) (r2 : List Int) (r3 o : Int) (hab : na ≠ nb) (hord : cuspref02_order.f k3 ua ub = some o) (ho : o < 0) (hs : cuspref02_less.f k4 ub ua = some us) (hn : cuspref02_norm.f k5 nb us E = some (r1, r2, r3)) :
    Calls Tryz.prog 25 #[.agg #[.bool na, .slice A la.length c, .int .i64 ea], .agg #[.bool nb, .slice B lb.length d, .int .i64 eb]] w (RetR (r1, r2, r3) w) := by
  have T0 := asd (plW_new (na := na) (ea := ea) (c := c) (nb := nb) (eb := eb) (d := d) ha hb)
  have HC := asd hc
  have HD := asd hd
  have z0 : (((la.length : Nat) : Int) == 0) = false := by rw [beq_eq_false_iff_ne]; omega
  have z1 : (((lb.length : Nat) : Int) == 0) = false := by rw [beq_eq_false_iff_ne]; omega
  have hEa : E ≤ ea ∧ E ≤ eb ∧ -10000000 ≤ E := by rw [← hE]; split <;> omega
  obtain ⟨hEa1, hEa2, hEa3⟩ := hEa
  have U1 := asd hu1
  have U2 := asd hu2
  have S1 := asd hs
  have N1 := asd hn
  have tok1 : True := trivial
  have OV := asd hord
  have hab1 : (na == nb) = false := by cases na <;> cases nb <;> simp_all
  have ho1 : decide (o < 0) = true := decide_eq_true ho
  clear ha hc hb hd hla hlb hu1 hu2 hs hn hab hord ho
  go_enter Tryz.func25, Tryz.ntmps25
  go_upto_region 11 with (first
    | (go_at_call 64; have _t := tok1; refine (cuspref02_up.calls k1 A c la (ea - E) ua _ T0.out.ra HC.out U1.out).mono ?_; rintro e1 w4 ⟨v4, rfl, r4, d4⟩; obtain ⟨A4, c4, hv4⟩ := Kd.R_slice r4; subst hv4; have R4 := asd (Kd.R_reads' r4); have T4 := asd (T0.out.step d4); have a40 := T4.out.a.c0; have a41 := T4.out.a.c1; have a42 := T4.out.a.c2; have b40 := T4.out.b.c0; have b41 := T4.out.b.c1; have b42 := T4.out.b.c2; have r40 := T4.out.r.c0; have r41 := T4.out.r.c1; have r42 := T4.out.r.c2; clear d4 r4 _t tok1)
    | (go_at_call 64; refine (cuspref02_up.calls k2 B d lb (eb - E) ub _ T4.out.rb HD.out U2.out).mono ?_; rintro e1 w5 ⟨v5, rfl, r5, d5⟩; obtain ⟨A5, c5, hv5⟩ := Kd.R_slice r5; subst hv5; have R5 := asd (Kd.R_reads' r5); have C4 := asd (Kd.C_below R4.out.2.2 d5); have T5 := asd (T4.out.step d5); have a50 := T5.out.a.c0; have a51 := T5.out.a.c1; have a52 := T5.out.a.c2; have b50 := T5.out.b.c0; have b51 := T5.out.b.c1; have b52 := T5.out.b.c2; have r50 := T5.out.r.c0; have r51 := T5.out.r.c1; have r52 := T5.out.r.c2; clear d5 r5)
    | (go_at_call 67; refine (cuspref02_order.calls k3 A4 c4 ua A5 c5 ub o _ C4.out R4.out.2.1 R5.out.2.2 R5.out.2.1 OV.out).mono ?_; rintro e1 w6 ⟨rfl, d6⟩; have C4' := asd (Kd.C_below C4.out d6.below); have C5' := asd (Kd.C_below R5.out.2.2 d6.below); have T6 := asd (T5.out.step d6.below); have a60 := T6.out.a.c0; have a61 := T6.out.a.c1; have a62 := T6.out.a.c2; have b60 := T6.out.b.c0; have b61 := T6.out.b.c1; have b62 := T6.out.b.c2; have r60 := T6.out.r.c0; have r61 := T6.out.r.c1; have r62 := T6.out.r.c2; clear d6))
  go_region_held3 (fun w' => w'.cell? ⟨w.heap.size + 1, 0, none⟩ = some (.bool nb))
    (first | exact b60 | exact S8.out | exact S7.out | (have _s := S8; exact (set3_cell _ _ _ _ _ _ _ (by omega)).trans S8.out) | go_keep)
    ((first
      | (go_at_call 68; refine (cuspref02_less.calls k4 A5 c5 ub A4 c4 ua us _ (Kd.C_below C5'.out (by first | exact Below.refl _ _ | exact (Below.refl _ _).drew)) R5.out.2.1 (Kd.C_below C4'.out (by first | exact Below.refl _ _ | exact (Below.refl _ _).drew)) R4.out.2.1 S1.out).mono ?_; rintro e1 w7 ⟨v7, rfl, r7, d7⟩; have B7 := asd (show Below w6.heap.size w6 w7 from below_post d7 (by first | exact Below.refl _ _ | exact (Below.refl _ _).drew)); have R7 := asd (show Kd.R (Kd.int .u32) 83 w7 w6.heap.size (fun _ => True) v7 us from r7); have T7 := asd (T6.out.step B7.out); have S7 := asd (show w7.cell? ⟨w.heap.size + 1, 0, none⟩ = some (.bool nb) from T7.out.b.c0); clear d7 r7)
      | (go_at_call 65; refine (cuspref02_norm.calls k5 nb (fun _ => True) _ us E r1 r2 r3 w6 _ (below_post (by first | exact Below.refl _ _ | exact (Below.refl _ _).drew) B7.out) (by first | exact R7.out | exact Kd.R_drew R7.out) N1.out).mono ?_; rintro e1 w8 ⟨v8, rfl, r8, d8, _⟩; obtain ⟨Au, cu, hu⟩ := Kd.R_slice r8; subst hu; have T8 := asd (T6.out.step d8); have R8 := asd (Kd.R_mono r8 (fun _ _ => (trivial : True))); have ltr := asd (blk_lt T6.out.r); have q0 := T8.out.r.c0; have q1 := T8.out.r.c1; have q2 := T8.out.r.c2; have q3 := T8.out.r.fr 0; have q4 := T8.out.r.fr 1; have q5 := T8.out.r.fr 2; have S8 := asd (show w8.cell? ⟨w.heap.size + 1, 0, none⟩ = some (.bool nb) from T8.out.b.c0); clear d8 r8)))
  all_goals
    go_wp2
    refine bodyPost_ret (v := .agg #[.bool r1, .slice Au r2.length cu, .int .i64 r3]) (by simp [results, Tryz.results25, go_sem, q0, q1, q2, q3, q4, q5]) rfl ?_
    have lt := ltr.out
    exact ⟨_, rfl, Kd.R_lower (r_set (r_set (r_set R8.out _ (by first | (simp; done) | simpa using lt) _) _ (by first | (simp; done) | simpa using lt) _) _ (by first | (simp; done) | simpa using lt) _) T6.out.keep.size, ((T8.out.keep.setCell (by simp; omega) _).setCell (by simp; omega) _).setCell (by simp; omega) _⟩
theorem plus_ge (k1 k2 k3 k4 k5 : Nat) (ua ub us : List Int) (E : Int) (hE : (if eb < ea then eb else ea) = E) (hla : la.length ≠ 0) (hlb : lb.length ≠ 0) (he0 : -10000000 ≤ ea) (he1 : ea ≤ 10000000) (he2 : -10000000 ≤ eb) (he3 : eb ≤ 10000000) (hu1 : cuspref02_up.f k1 la (ea - E) = some ua) (hu2 : cuspref02_up.f k2 lb (eb - E) = some ub) (r1 : Bool) (r2 : List Int) (r3 o : Int) (hab : na ≠ nb) (hord : cuspref02_order.f k3 ua ub = some o) (ho : 0 ≤ o) (hs : cuspref02_less.f k4 ua ub = some us) (hn : cuspref02_norm.f k5 na us E = some (r1, r2, r3)) :
    Calls Tryz.prog 25 #[.agg #[.bool na, .slice A la.length c, .int .i64 ea], .agg #[.bool nb, .slice B lb.length d, .int .i64 eb]] w (RetR (r1, r2, r3) w) := by
  have T0 := asd (plW_new (na := na) (ea := ea) (c := c) (nb := nb) (eb := eb) (d := d) ha hb)
  have HC := asd hc
  have HD := asd hd
  have z0 : (((la.length : Nat) : Int) == 0) = false := by rw [beq_eq_false_iff_ne]; omega
  have z1 : (((lb.length : Nat) : Int) == 0) = false := by rw [beq_eq_false_iff_ne]; omega
  have hEa : E ≤ ea ∧ E ≤ eb ∧ -10000000 ≤ E := by rw [← hE]; split <;> omega
  obtain ⟨hEa1, hEa2, hEa3⟩ := hEa
  have U1 := asd hu1
  have U2 := asd hu2
  have S1 := asd hs
  have N1 := asd hn
  have tok1 : True := trivial
  have OV := asd hord
  have hab1 : (na == nb) = false := by cases na <;> cases nb <;> simp_all
  have ho1 : decide (o < 0) = false := decide_eq_false (by omega)
  clear ha hc hb hd hla hlb hu1 hu2 hs hn hab hord ho
  go_enter Tryz.func25, Tryz.ntmps25
  go_upto_region 12 with (first
    | (go_at_call 64; have _t := tok1; refine (cuspref02_up.calls k1 A c la (ea - E) ua _ T0.out.ra HC.out U1.out).mono ?_; rintro e1 w4 ⟨v4, rfl, r4, d4⟩; obtain ⟨A4, c4, hv4⟩ := Kd.R_slice r4; subst hv4; have R4 := asd (Kd.R_reads' r4); have T4 := asd (T0.out.step d4); have a40 := T4.out.a.c0; have a41 := T4.out.a.c1; have a42 := T4.out.a.c2; have b40 := T4.out.b.c0; have b41 := T4.out.b.c1; have b42 := T4.out.b.c2; have r40 := T4.out.r.c0; have r41 := T4.out.r.c1; have r42 := T4.out.r.c2; clear d4 r4 _t tok1)
    | (go_at_call 64; refine (cuspref02_up.calls k2 B d lb (eb - E) ub _ T4.out.rb HD.out U2.out).mono ?_; rintro e1 w5 ⟨v5, rfl, r5, d5⟩; obtain ⟨A5, c5, hv5⟩ := Kd.R_slice r5; subst hv5; have R5 := asd (Kd.R_reads' r5); have C4 := asd (Kd.C_below R4.out.2.2 d5); have T5 := asd (T4.out.step d5); have a50 := T5.out.a.c0; have a51 := T5.out.a.c1; have a52 := T5.out.a.c2; have b50 := T5.out.b.c0; have b51 := T5.out.b.c1; have b52 := T5.out.b.c2; have r50 := T5.out.r.c0; have r51 := T5.out.r.c1; have r52 := T5.out.r.c2; clear d5 r5)
    | (go_at_call 67; refine (cuspref02_order.calls k3 A4 c4 ua A5 c5 ub o _ C4.out R4.out.2.1 R5.out.2.2 R5.out.2.1 OV.out).mono ?_; rintro e1 w6 ⟨rfl, d6⟩; have C4' := asd (Kd.C_below C4.out d6.below); have C5' := asd (Kd.C_below R5.out.2.2 d6.below); have T6 := asd (T5.out.step d6.below); have a60 := T6.out.a.c0; have a61 := T6.out.a.c1; have a62 := T6.out.a.c2; have b60 := T6.out.b.c0; have b61 := T6.out.b.c1; have b62 := T6.out.b.c2; have r60 := T6.out.r.c0; have r61 := T6.out.r.c1; have r62 := T6.out.r.c2; clear d6))
  go_region_held3 (fun w' => w'.cell? ⟨w.heap.size, 0, none⟩ = some (.bool na))
    (first | exact a60 | exact S8.out | exact S7.out | (have _s := S8; exact (set3_cell _ _ _ _ _ _ _ (by omega)).trans S8.out) | go_keep)
    ((first
      | (go_at_call 68; refine (cuspref02_less.calls k4 A4 c4 ua A5 c5 ub us _ (Kd.C_below C4'.out (by first | exact Below.refl _ _ | exact (Below.refl _ _).drew)) R4.out.2.1 (Kd.C_below C5'.out (by first | exact Below.refl _ _ | exact (Below.refl _ _).drew)) R5.out.2.1 S1.out).mono ?_; rintro e1 w7 ⟨v7, rfl, r7, d7⟩; have B7 := asd (show Below w6.heap.size w6 w7 from below_post d7 (by first | exact Below.refl _ _ | exact (Below.refl _ _).drew)); have R7 := asd (show Kd.R (Kd.int .u32) 83 w7 w6.heap.size (fun _ => True) v7 us from r7); have T7 := asd (T6.out.step B7.out); have S7 := asd (show w7.cell? ⟨w.heap.size, 0, none⟩ = some (.bool na) from T7.out.a.c0); clear d7 r7)
      | (go_at_call 65; refine (cuspref02_norm.calls k5 na (fun _ => True) _ us E r1 r2 r3 w6 _ (below_post (by first | exact Below.refl _ _ | exact (Below.refl _ _).drew) B7.out) (by first | exact R7.out | exact Kd.R_drew R7.out) N1.out).mono ?_; rintro e1 w8 ⟨v8, rfl, r8, d8, _⟩; obtain ⟨Au, cu, hu⟩ := Kd.R_slice r8; subst hu; have T8 := asd (T6.out.step d8); have R8 := asd (Kd.R_mono r8 (fun _ _ => (trivial : True))); have ltr := asd (blk_lt T6.out.r); have q0 := T8.out.r.c0; have q1 := T8.out.r.c1; have q2 := T8.out.r.c2; have q3 := T8.out.r.fr 0; have q4 := T8.out.r.fr 1; have q5 := T8.out.r.fr 2; have S8 := asd (show w8.cell? ⟨w.heap.size, 0, none⟩ = some (.bool na) from T8.out.a.c0); clear d8 r8)))
  all_goals
    go_wp2
    refine bodyPost_ret (v := .agg #[.bool r1, .slice Au r2.length cu, .int .i64 r3]) (by simp [results, Tryz.results25, go_sem, q0, q1, q2, q3, q4, q5]) rfl ?_
    have lt := ltr.out
    exact ⟨_, rfl, Kd.R_lower (r_set (r_set (r_set R8.out _ (by first | (simp; done) | simpa using lt) _) _ (by first | (simp; done) | simpa using lt) _) _ (by first | (simp; done) | simpa using lt) _) T6.out.keep.size, ((T8.out.keep.setCell (by simp; omega) _).setCell (by simp; omega) _).setCell (by simp; omega) _⟩
end
end Go.Proofs.YthmeocigliephaaGreatDoor.Big
end
section
namespace Go.Proofs.YthmeocigliephaaGreatDoor.Big
open Go.Proofs.YthmeocigliephaaGreatDoor.PSu Go.Proofs.YthmeocigliephaaGreatDoor.Plain
def plusN (na : Bool) (la : List Int) (ea : Int) (nb : Bool) (lb : List Int) (eb : Int) : Bool × List Int × Int :=
  if la.length = 0 then (nb, lb, eb) else if lb.length = 0 then (na, la, ea)
  else canN (zv na la * 2 ^ (ea - mn ea eb).toNat + zv nb lb * 2 ^ (eb - mn ea eb).toNat) (mn ea eb)
theorem zv_pow (na : Bool) (l : List Int) (k : Nat) : zv na l * 2 ^ k = if na = true then -((val l * 2 ^ k : Nat) : Int) else ((val l * 2 ^ k : Nat) : Int) := by
  unfold zv
  cases na
  · rw [if_neg (by simp), if_neg (by simp), Int.natCast_mul, Int.natCast_pow]; rfl
  · rw [if_pos rfl, if_pos rfl, Int.neg_mul, Int.natCast_mul, Int.natCast_pow]; rfl
theorem up_length {p k j : Nat} (h : (dig p).length ≤ k) : (dig (p * 2 ^ j)).length ≤ k + j / 32 + 1 := by
  refine dig_length_le ?_
  have h1 := lt_dig_length p
  calc p * 2 ^ j < 2 ^ (32 * (dig p).length) * 2 ^ j := Nat.mul_lt_mul_of_pos_right h1 (Nat.pow_pos (by omega))
    _ = 2 ^ (32 * (dig p).length + j) := by rw [← Nat.pow_add]
    _ ≤ _ := Nat.pow_le_pow_right (by omega) (by omega)
theorem add_length {p q k : Nat} (h : (dig p).length ≤ k) (h2 : (dig q).length ≤ k) : (dig (p + q)).length ≤ k + 1 := by
  refine dig_length_le ?_
  have h3 : p < 2 ^ (32 * k) := Nat.lt_of_lt_of_le (lt_dig_length p) (Nat.pow_le_pow_right (by omega) (by omega))
  have h4 : q < 2 ^ (32 * k) := Nat.lt_of_lt_of_le (lt_dig_length q) (Nat.pow_le_pow_right (by omega) (by omega))
  rw [pow32_succ]; omega
theorem plus_any (na : Bool) (la : List Int) (ea : Int) (A : Option Addr) (c : Nat) (nb : Bool) (lb : List Int) (eb : Int) (B : Option Addr) (d : Nat) (w : World)
    (ha : Kd.C (Kd.int .u32) w A la.length la) (hc : la.length ≤ c) (hb : Kd.C (Kd.int .u32) w B lb.length lb) (hd : lb.length ≤ d) (oa : IsO la ea) (ob : IsO lb eb) :
    Calls Tryz.prog 25 #[.agg #[.bool na, .slice A la.length c, .int .i64 ea], .agg #[.bool nb, .slice B lb.length d, .int .i64 eb]] w (RetR (plusN na la ea nb lb eb) w) := by
  obtain ⟨a1, a2, a3, a4⟩ := oa
  obtain ⟨b1, b2, b3, b4⟩ := ob
  unfold plusN
  by_cases hla : la.length = 0
  · rw [if_pos hla]
    exact plus_a0 na la ea A c nb lb eb B d w ha hc hb hd hla (by omega)
  · rw [if_neg hla]
    by_cases hlb : lb.length = 0
    · rw [if_pos hlb]
      exact plus_b0 na la ea A c nb lb eb B d w ha hc hb hd hla hlb (by omega)
    · rw [if_neg hlb]
      obtain ⟨a1, _⟩ := a1.resolve_left hla
      obtain ⟨b1, _⟩ := b1.resolve_left hlb
      obtain ⟨E, hE⟩ : ∃ E, mn ea eb = E := ⟨_, rfl⟩
      rw [hE]
      have hE1 : E ≤ ea ∧ E ≤ eb ∧ -1000000 ≤ E ∧ E ≤ 1000000 := by rw [← hE]; unfold mn; split <;> omega
      obtain ⟨i, hi⟩ : ∃ i, (ea - E).toNat = i := ⟨_, rfl⟩
      obtain ⟨j, hj⟩ : ∃ j, (eb - E).toNat = j := ⟨_, rfl⟩
      rw [hi, hj]
      obtain ⟨p, hp⟩ : ∃ p, val la = p := ⟨_, rfl⟩
      obtain ⟨q, hq⟩ : ∃ q, val lb = q := ⟨_, rfl⟩
      rw [hp] at a1
      rw [hq] at b1
      have lp : (dig p).length ≤ 100000 := by rw [a1]; exact a2
      have lq : (dig q).length ≤ 100000 := by rw [b1]; exact b2
      obtain ⟨k1, u1⟩ := (rup_law p i (by omega)).rounds
      obtain ⟨k2, u2⟩ := (rup_law q j (by omega)).rounds
      rw [a1, show ((i : Nat) : Int) = ea - E by omega] at u1
      rw [b1, show ((j : Nat) : Int) = eb - E by omega] at u2
      have lP := up_length (j := i) lp
      have lQ := up_length (j := j) lq
      rw [zv_pow, zv_pow, hp, hq]
      obtain ⟨P, hP⟩ : ∃ P, p * 2 ^ i = P := ⟨_, rfl⟩
      obtain ⟨Q, hQ⟩ : ∃ Q, q * 2 ^ j = Q := ⟨_, rfl⟩
      rw [hP] at u1 lP ⊢
      rw [hQ] at u2 lQ ⊢
      have lP' : (dig P).length ≤ 200000 := by omega
      have lQ' : (dig Q).length ≤ 200000 := by omega
      have lS := add_length lP' lQ'
      by_cases hab : na = nb
      · obtain ⟨k4, s4⟩ := (rsum_law P Q (by omega) (by omega)).rounds
        obtain ⟨k5, s5⟩ := (rnorm_law na (dig (P + Q)) E (dg_dig _) (by omega) (by omega) (by omega)).rounds
        rw [val_dig] at s5
        have hz : (if na = true then -((P + Q : Nat) : Int) else ((P + Q : Nat) : Int)) = (if na = true then -(P : Int) else (P : Int)) + (if nb = true then -(Q : Int) else (Q : Int)) := by
          rw [← hab]; cases na
          · rw [if_neg (by simp), if_neg (by simp), if_neg (by simp)]; omega
          · rw [if_pos rfl, if_pos rfl, if_pos rfl]; omega
        rw [hz] at s5
        exact plus_same na la ea A c nb lb eb B d w ha hc hb hd k1 k2 0 k4 k5 _ _ _ E (by rw [← hE]; rfl) hla hlb (by omega) (by omega) (by omega) (by omega) u1 u2 _ _ _ hab s4 s5
      · obtain ⟨k3, s3⟩ := (rorder_law P Q (by omega)).rounds
        by_cases hlt : P < Q
        · rw [cmpN_lt hlt] at s3
          obtain ⟨k4, s4⟩ := (rless_law Q P (by omega) (by omega)).rounds
          have lD : (dig (Q - P)).length ≤ (dig Q).length := dig_length_mono (by omega)
          obtain ⟨k5, s5⟩ := (rnorm_law nb (dig (Q - P)) E (dg_dig _) (by omega) (by omega) (by omega)).rounds
          rw [val_dig] at s5
          have hz : (if nb = true then -((Q - P : Nat) : Int) else ((Q - P : Nat) : Int)) = (if na = true then -(P : Int) else (P : Int)) + (if nb = true then -(Q : Int) else (Q : Int)) := by
            cases na <;> cases nb
            · exact absurd rfl hab
            · rw [if_pos rfl, if_neg (by simp), if_pos rfl]; omega
            · rw [if_neg (by simp), if_pos rfl, if_neg (by simp)]; omega
            · exact absurd rfl hab
          rw [hz] at s5
          exact plus_lt na la ea A c nb lb eb B d w ha hc hb hd k1 k2 k3 k4 k5 _ _ _ E (by rw [← hE]; rfl) hla hlb (by omega) (by omega) (by omega) (by omega) u1 u2 _ _ _ _ hab s3 (by omega) s4 s5
        · have s3' : ∃ o, 0 ≤ o ∧ cuspref02_order.f k3 (dig P) (dig Q) = some o := ⟨_, by unfold cmpN; rw [if_neg hlt]; split <;> omega, s3⟩
          obtain ⟨o, ho, s3⟩ := s3'
          obtain ⟨k4, s4⟩ := (rless_law P Q (by omega) (by omega)).rounds
          have lD : (dig (P - Q)).length ≤ (dig P).length := dig_length_mono (by omega)
          obtain ⟨k5, s5⟩ := (rnorm_law na (dig (P - Q)) E (dg_dig _) (by omega) (by omega) (by omega)).rounds
          rw [val_dig] at s5
          have hz : (if na = true then -((P - Q : Nat) : Int) else ((P - Q : Nat) : Int)) = (if na = true then -(P : Int) else (P : Int)) + (if nb = true then -(Q : Int) else (Q : Int)) := by
            cases na <;> cases nb
            · exact absurd rfl hab
            · rw [if_neg (by simp), if_neg (by simp), if_pos rfl]; omega
            · rw [if_pos rfl, if_pos rfl, if_neg (by simp)]; omega
            · exact absurd rfl hab
          rw [hz] at s5
          exact plus_ge na la ea A c nb lb eb B d w ha hc hb hd k1 k2 k3 k4 k5 _ _ _ E (by rw [← hE]; rfl) hla hlb (by omega) (by omega) (by omega) (by omega) u1 u2 _ _ _ _ hab s3 ho s4 s5
theorem plus_can (x y e : Int) : plusN (canN x e).1 (canN x e).2.1 (canN x e).2.2 (canN y e).1 (canN y e).2.1 (canN y e).2.2 = canN (x + y) e := by
  unfold plusN
  by_cases hx0 : x = 0
  · subst hx0; rw [Int.zero_add, canN_zero]; rfl
  · have hxl : ¬ (canN x e).2.1.length = 0 := fun h => hx0 ((can_nil e).1 (List.length_eq_zero_iff.1 h))
    rw [if_neg hxl]
    by_cases hy0 : y = 0
    · subst hy0; rw [Int.add_zero, canN_zero]; rfl
    · have hyl : ¬ (canN y e).2.1.length = 0 := fun h => hy0 ((can_nil e).1 (List.length_eq_zero_iff.1 h))
      rw [if_neg hyl]
      obtain ⟨h1, h2, h3⟩ := zv_can hx0 e
      obtain ⟨k1, k2, k3⟩ := zv_can hy0 e
      have hm : ∃ j : Nat, mn (canN x e).2.2 (canN y e).2.2 = e + j ∧ ((canN x e).2.2 - mn (canN x e).2.2 (canN y e).2.2).toNat + j = tz x.natAbs ∧ ((canN y e).2.2 - mn (canN x e).2.2 (canN y e).2.2).toNat + j = tz y.natAbs := by
        rw [h3, k3]
        unfold mn
        split
        · exact ⟨tz y.natAbs, by omega, by omega, by omega⟩
        · exact ⟨tz x.natAbs, by omega, by omega, by omega⟩
      obtain ⟨j, j1, j2, j3⟩ := hm
      have hs : (zv (canN x e).1 (canN x e).2.1 * 2 ^ ((canN x e).2.2 - mn (canN x e).2.2 (canN y e).2.2).toNat + zv (canN y e).1 (canN y e).2.1 * 2 ^ ((canN y e).2.2 - mn (canN x e).2.2 (canN y e).2.2).toNat) * 2 ^ j = x + y := by
        rw [Int.add_mul, Int.mul_assoc, Int.mul_assoc, ← Int.pow_add, ← Int.pow_add, j2, j3, h1, k1]
      rw [j1] at hs ⊢
      rw [← canN_shift, hs]
theorem isO_can {z e : Int} (h1 : bl z.natAbs ≤ 1000000) (h2 : -1000000 ≤ e) (h3 : e + (bl z.natAbs : Int) ≤ 1000000) : IsO (canN z e).2.1 (canN z e).2.2 := by
  by_cases h : z = 0
  · subst h; rw [canN_zero]; exact ⟨.inl rfl, by simp, by simp, by simp⟩
  · have hn : z.natAbs ≠ 0 := by omega
    have h4 := bl_mul_pow (odd_ne hn) (tz z.natAbs)
    rw [odd_mul hn] at h4
    have h5 := odd_odd hn
    rw [canN_ne h]
    refine ⟨.inr ⟨by rw [val_dig], by rw [val_dig]; exact h5⟩, ?_, by show -1000000 ≤ e + (tz z.natAbs : Int); omega, by show e + (tz z.natAbs : Int) ≤ 1000000; omega⟩
    have h6 : bl (odd z.natAbs) ≤ 32 * 31250 := by omega
    have h7 := dig_length_le (bl_le.1 h6)
    exact Nat.le_trans h7 (by omega)
end Go.Proofs.YthmeocigliephaaGreatDoor.Big
namespace Go.Proofs.YthmeocigliephaaGreatDoor
open Go.Proofs.YthmeocigliephaaGreatDoor.PSu Go.Proofs.YthmeocigliephaaGreatDoor.Plain Go.Proofs.YthmeocigliephaaGreatDoor.Big
def cuspref02_Plus.f (a0_0 : Bool) (l0_1 : List Int) (a0_2 : Int) (a1_0 : Bool) (l1_1 : List Int) (a1_2 : Int) : Option (Bool × List Int × Int) :=
  if IsO l0_1 a0_2 ∧ IsO l1_1 a1_2 then some (plusN a0_0 l0_1 a0_2 a1_0 l1_1 a1_2) else none
theorem cuspref02_Plus.calls (a0_0 : Bool) (A0_1 : Option Addr) (c0_1 : Nat) (l0_1 : List Int) (a0_2 : Int) (a1_0 : Bool) (A1_1 : Option Addr) (c1_1 : Nat) (l1_1 : List Int) (a1_2 : Int) (r1 : Bool) (r2 : List Int) (r3 : Int) (w : World)
    (hr0_1 : Kd.C (Kd.int .u32) w A0_1 l0_1.length l0_1) (hc0_1 : l0_1.length ≤ c0_1) (hr1_1 : Kd.C (Kd.int .u32) w A1_1 l1_1.length l1_1) (hc1_1 : l1_1.length ≤ c1_1)
    (h : cuspref02_Plus.f a0_0 l0_1 a0_2 a1_0 l1_1 a1_2 = some (r1, r2, r3)) :
    Calls Tryz.prog 25 #[.agg #[.bool a0_0, .slice A0_1 l0_1.length c0_1, .int .i64 a0_2], .agg #[.bool a1_0, .slice A1_1 l1_1.length c1_1, .int .i64 a1_2]] w fun e w' => ∃ v1_ : Value, e = .returned (.agg #[.bool r1, v1_, .int .i64 r3]) ∧ Kd.R (Kd.int .u32) 83 w' w.heap.size (fun _ => True) v1_ r2 ∧ Below w.heap.size w w' := by
  unfold cuspref02_Plus.f at h
  split at h
  · rename_i hf
    have := plus_any a0_0 l0_1 a0_2 A0_1 c0_1 a1_0 l1_1 a1_2 A1_1 c1_1 w hr0_1 hc0_1 hr1_1 hc1_1 hf.1 hf.2
    rw [Option.some.inj h] at this
    exact this
  · cases h
end Go.Proofs.YthmeocigliephaaGreatDoor
end
section
namespace Go.Proofs.YthmeocigliephaaGreatDoor.Big
open Go.Proofs.YthmeocigliephaaGreatDoor.PSu Go.Proofs.YthmeocigliephaaGreatDoor.Plain
theorem incV_shift (n K j : Nat) (up near : Bool) : incV (n * 2 ^ j) (K + 1 + j) up near = incV n (K + 1) up near := by
  have hj : 0 < 2 ^ j := Nat.pow_pos (by omega)
  have e1 : n * 2 ^ j % 2 ^ (K + 1 + j) = n % 2 ^ (K + 1) * 2 ^ j := by rw [Nat.pow_add]; exact Nat.mul_mod_mul_right _ _ _
  have e2 : n * 2 ^ j / 2 ^ (K + 1 + j) = n / 2 ^ (K + 1) := by rw [Nat.pow_add]; exact Nat.mul_div_mul_right _ _ hj
  have e3 : 2 ^ (K + 1 + j - 1) = 2 ^ K * 2 ^ j := by rw [← Nat.pow_add]; congr 1; omega
  unfold incV
  rw [e1, e2, e3, Nat.add_sub_cancel]
  generalize n % 2 ^ (K + 1) = r
  generalize 2 ^ K = h
  have d1 : decide (r * 2 ^ j ≠ 0) = decide (r ≠ 0) := by
    rw [decide_eq_decide]
    exact not_congr ⟨fun h => (Nat.mul_eq_zero.1 h).resolve_right (by omega), fun h => by rw [h, Nat.zero_mul]⟩
  have d2 : decide (h * 2 ^ j < r * 2 ^ j) = decide (h < r) := by rw [decide_eq_decide]; exact Nat.mul_lt_mul_right hj
  have d3 : decide (r * 2 ^ j = h * 2 ^ j) = decide (r = h) := by
    rw [decide_eq_decide]; exact ⟨fun e => Nat.mul_right_cancel hj e, fun e => by rw [e]⟩
  rw [d1, d2, d3]
theorem magV_shift {n : Nat} (hn : n ≠ 0) (j : Nat) (e : Int) (up near : Bool) : magV (n * 2 ^ j) e up near = magV n (e + j) up near := by
  have hj : 0 < 2 ^ j := Nat.pow_pos (by omega)
  have hb := bl_mul_pow hn j
  have ht : ((bl (n * 2 ^ j) : Nat) : Int) + e = (bl n : Int) + (e + j) := by omega
  unfold magV
  rw [ht]
  obtain ⟨t, htt⟩ : ∃ t, (bl n : Int) + (e + j) = t := ⟨_, rfl⟩
  rw [htt]
  by_cases h1 : 1024 < t
  · rw [if_pos h1, if_pos h1]
  · rw [if_neg h1, if_neg h1]
    by_cases h2 : t < -1075
    · rw [if_pos h2, if_pos h2]
    · rw [if_neg h2, if_neg h2]
      obtain ⟨L, hL⟩ : ∃ L, lastV t = L := ⟨_, rfl⟩
      rw [hL]
      by_cases h3 : L ≤ e
      · rw [if_pos h3, if_pos (by omega), Nat.mul_assoc, ← Nat.pow_add]
        congr 3; omega
      · rw [if_neg h3]
        by_cases h4 : L ≤ e + j
        · rw [if_pos h4]
          obtain ⟨K, hK⟩ : ∃ K, (L - e).toNat = K + 1 := ⟨(L - e).toNat - 1, by omega⟩
          have e1 : n * 2 ^ j = n * 2 ^ (e + j - L).toNat * 2 ^ (K + 1) := by rw [Nat.mul_assoc, ← Nat.pow_add]; congr 2; omega
          have hp : 0 < 2 ^ (K + 1) := Nat.pow_pos (by omega)
          have hp2 : 0 < 2 ^ K := Nat.pow_pos (by omega)
          have hi : incV (n * 2 ^ j) (K + 1) up near = false := by
            unfold incV
            rw [e1, Nat.mul_mod_left, Nat.add_sub_cancel, decide_eq_false (show ¬ (0 ≠ 0) by simp), decide_eq_false (show ¬ 2 ^ K < 0 by omega), decide_eq_false (show ¬ 0 = 2 ^ K by omega)]
            simp
          rw [hK, hi, if_neg (by simp), e1, Nat.mul_div_cancel _ hp, Nat.add_zero]
        · rw [if_neg h4]
          obtain ⟨K, hK⟩ : ∃ K, (L - (e + j)).toNat = K + 1 := ⟨(L - (e + j)).toNat - 1, by omega⟩
          rw [show (L - e).toNat = K + 1 + j by omega, hK, incV_shift, Nat.pow_add, Nat.mul_div_mul_right _ _ hj]
def rndZ (z mode : Int) : Nat := if z = 0 then 0 else roundV (decide (z < 0)) z.natAbs (-1074) mode
theorem roundV_can {z : Int} (h : z ≠ 0) (mode : Int) : roundV (canN z (-1074)).1 (val (canN z (-1074)).2.1) (canN z (-1074)).2.2 mode = rndZ z mode := by
  have hn : z.natAbs ≠ 0 := by omega
  obtain ⟨_, h2, h3⟩ := zv_can h (-1074)
  have h4 := odd_mul hn
  unfold rndZ
  rw [if_neg h, h2, h3, roundV_eq, roundV_eq]
  have h5 := magV_shift (odd_ne hn) (tz z.natAbs) (-1074)
  rw [h4] at h5
  rw [h5, canN_ne h]
theorem can_length {z e : Int} : (canN z e).2.1.length = 0 ↔ z = 0 := by rw [List.length_eq_zero_iff, can_nil]
theorem round_can {z mode : Int} (h1 : bl z.natAbs ≤ 60000) (hm : 1 ≤ mode ∧ mode ≤ 3) : dyad_Round.f (canN z (-1074)).1 (canN z (-1074)).2.1 (canN z (-1074)).2.2 mode = some (rndZ z mode, 0) := by
  unfold dyad_Round.f roundN
  rw [if_pos (isN_can (by omega) (by omega) (by omega)), if_pos hm]
  by_cases h : z = 0
  · rw [if_pos (can_length.2 h)]; unfold rndZ; rw [if_pos h]
  · rw [if_neg (fun h' => h (can_length.1 h')), roundV_can h]
theorem rplus_can {x y : Int} (hx : bl x.natAbs ≤ 900000) (hy : bl y.natAbs ≤ 900000) : cuspref02_Plus.f (canN x (-1074)).1 (canN x (-1074)).2.1 (canN x (-1074)).2.2 (canN y (-1074)).1 (canN y (-1074)).2.1 (canN y (-1074)).2.2 = some (canN (x + y) (-1074)) := by
  unfold cuspref02_Plus.f
  rw [if_pos ⟨isO_can (by omega) (by omega) (by omega), isO_can (by omega) (by omega) (by omega)⟩, plus_can]
theorem sign_can {z : Int} (h1 : bl z.natAbs ≤ 60000) : dyad_Sign.f 1 (canN z (-1074)).1 (canN z (-1074)).2.1 (canN z (-1074)).2.2 = some (if z = 0 then (0 : Int) else if z < 0 then -1 else 1) := by
  rw [sign_law (isN_can (by omega) (by omega) (by omega))]
  by_cases h : z = 0
  · rw [if_pos (can_length.2 h), if_pos h]
  · rw [if_neg (fun h' => h (can_length.1 h')), if_neg h, canN_ne h]
    simp
theorem nan_fin {a : Nat} (h : Fin64 a) : ((FloatKind.f64.format.order a a) != some .eq) = false := by rw [order_self h]; rfl
theorem inf_fin {a : Nat} (h : Fin64 a) : round_infinite.f a = some false := by
  unfold round_infinite.f math_IsInf.f math_Abs.f
  rw [if_pos rfl, Option.bind_some, bits_abs a h.1]
  simp only [Int.toNat_natCast, Option.bind_some]
  rw [order_max h]
theorem rnum_law {b : Nat} (h : Fin64 b) : round_num.f b = some (canN (flz b) (-1074)) := by
  unfold round_num.f
  rw [of_law h]; rfl
theorem sum_bl {a b : Nat} (ha : Fin64 a) (hb : Fin64 b) : bl (flz a + flz b).natAbs ≤ 2100 := by
  have h1 := flz_lt ha
  have h2 := flz_lt hb
  have h3 := Int.natAbs_add_le (flz a) (flz b)
  refine bl_le.2 (Nat.lt_of_le_of_lt h3 ?_)
  have : (2 : Nat) ^ 2100 = 4 * 2 ^ 2098 := by rw [Nat.pow_succ, Nat.pow_succ]
  omega
end Go.Proofs.YthmeocigliephaaGreatDoor.Big
end
section
namespace Go.Proofs.YthmeocigliephaaGreatDoor.Big
open Go.Proofs.YthmeocigliephaaGreatDoor.PSu Go.Proofs.YthmeocigliephaaGreatDoor.Plain
theorem neg_can (y e : Int) : (canN (-y) e) = (if y = 0 then (false, [], 0) else (!(canN y e).1, (canN y e).2.1, (canN y e).2.2)) := by
  by_cases h : y = 0
  · subst h; rw [if_pos rfl]; rfl
  · rw [if_neg h, canN_ne (show -y ≠ 0 by omega), canN_ne h, Int.natAbs_neg]
    have : decide (-y < 0) = !decide (y < 0) := by
      by_cases h1 : y < 0
      · rw [decide_eq_true h1, decide_eq_false (by omega)]; rfl
      · rw [decide_eq_false h1, decide_eq_true (by omega)]; rfl
    rw [this]
theorem dneg_law {y : Int} (hy : bl y.natAbs ≤ 50000) : dyad_Neg.f (canN y (-1074)).1 (canN y (-1074)).2.1 (canN y (-1074)).2.2 = some (canN (-y) (-1074)) := by
  have hv := isN_can (z := y) (e := -1074) (by omega) (by omega) (by omega)
  have hf := hv.facts
  unfold dyad_Neg.f
  rw [show PSu.dyad_Valid.f _ _ _ = some true from hv.1, Option.bind_some, if_pos rfl, neg_can]
  by_cases h : y = 0
  · rw [if_pos (by have := can_length (e := -1074).2 h; omega), if_pos h]
  · rw [if_neg (fun h' => h ((can_length (e := -1074)).1 (by omega))), if_neg h, Option.bind_some, if_pos (by simp; omega)]
    rfl
theorem dvalid_two (k : Nat) (a b : PSu.S60) (hv : PSu.dyad_Valid.f a.f0 a.f1 a.f2 = some true) (hw : PSu.dyad_Valid.f b.f0 b.f1 b.f2 = some true) : dyad_valid.f (k + 3) [a, b] = some true := by
  unfold dyad_valid.f
  have w1 : wrap64 ((0 : Int) + 1) = 1 := by decide +kernel
  have w2 : wrap64 ((1 : Int) + 1) = 2 := by decide +kernel
  rw [dyad_valid.l0, if_pos (by simp), if_pos (by simp), if_pos (by simp), show PSu.rd_T60 [a, b] 0 = a from rfl, hv, Option.bind_some, if_pos rfl, w1,
    dyad_valid.l0, if_pos (by simp), if_pos (by simp), if_pos (by simp), show PSu.rd_T60 [a, b] 1 = b from rfl, hw, Option.bind_some, if_pos rfl, w2, dyad_valid.l0, if_neg (by simp)]
theorem dsub_law (k : Nat) {x y : Int} (hx : bl x.natAbs ≤ 50000) (hy : bl y.natAbs ≤ 50000) : dyad_Sub.f (k + 3) (canN x (-1074)).1 (canN x (-1074)).2.1 (canN x (-1074)).2.2 (canN y (-1074)).1 (canN y (-1074)).2.1 (canN y (-1074)).2.2 = some ((canN (x - y) (-1074)).1, (canN (x - y) (-1074)).2.1, (canN (x - y) (-1074)).2.2, 0) := by
  unfold dyad_Sub.f
  rw [dvalid_two k ⟨(canN x (-1074)).1, (canN x (-1074)).2.1, (canN x (-1074)).2.2⟩ ⟨(canN y (-1074)).1, (canN y (-1074)).2.1, (canN y (-1074)).2.2⟩ (isN_can (z := x) (e := -1074) (by omega) (by omega) (by omega)).1 (isN_can (z := y) (e := -1074) (by omega) (by omega) (by omega)).1, Option.bind_some, if_pos rfl, dneg_law hy, Option.bind_some, dadd_law hx (by rw [Int.natAbs_neg]; exact hy), Option.bind_some, show x + -y = x - y by omega]
end Go.Proofs.YthmeocigliephaaGreatDoor.Big
end
section
namespace Go.Proofs.YthmeocigliephaaGreatDoor.Big
open Go.Proofs.YthmeocigliephaaGreatDoor.PSu Go.Proofs.YthmeocigliephaaGreatDoor.Plain Ieee
theorem compare_mul (x y : Int) (k : Nat) : compare (x * 2 ^ k) (y * 2 ^ k) = compare x y := by
  have hp : (0 : Int) < 2 ^ k := Int.pow_pos (by omega)
  rcases Int.lt_trichotomy x y with h | h | h
  · have h2 := Int.mul_lt_mul_of_pos_right h hp
    rw [Int.compare_eq_lt.2 h, Int.compare_eq_lt.2 h2]
  · subst h; rw [Int.compare_eq_eq.2 rfl, Int.compare_eq_eq.2 rfl]
  · have h2 := Int.mul_lt_mul_of_pos_right h hp
    rw [Int.compare_eq_gt.2 h, Int.compare_eq_gt.2 h2]
theorem signed_mul (s : Bool) (m u k : Nat) : signed s m u * 2 ^ k = (if s then -(m : Int) else m) * 2 ^ (u + k) := by
  unfold signed
  rw [Nat.shiftLeft_eq, Int.pow_add, ← Int.mul_assoc]
  cases s
  · simp [Int.natCast_mul, Int.natCast_pow]
  · simp [Int.natCast_mul, Int.natCast_pow, Int.neg_mul]
theorem order_fin {a b : Nat} (ha : Fin64 a) (hb : Fin64 b) : FloatKind.f64.format.order a b = some (compare (flz a) (flz b)) := by
  have ea := expoV_range ha
  have eb := expoV_range hb
  show double.order a b = _
  unfold Format.order
  rw [read_fin ha, read_fin hb]
  unfold Datum.order
  simp only
  congr 1
  rw [← compare_mul _ _ (min (expoV a) (expoV b) + 1074).toNat, signed_mul, signed_mul]
  unfold flz floV
  congr 3 <;> omega
theorem kind_cases {b : Nat} (h : b < 18446744073709551616) : Fin64 b ∨ b % 9223372036854775808 = 9218868437227405312 ∨ 9218868437227405312 < b % 9223372036854775808 := by
  unfold Fin64; omega
theorem read_inf {b : Nat} (h : b < 18446744073709551616) (h2 : b % 9223372036854775808 = 9218868437227405312) : double.read b = .infinity (sgn b) := by
  have : b = 9218868437227405312 ∨ b = 18442240474082181120 := by omega
  rcases this with rfl | rfl <;> rfl
theorem read_nan {b : Nat} (h2 : 9218868437227405312 < b % 9223372036854775808) : ∃ s f, double.read b = .nan s f := by
  unfold Format.read
  simp only [sw, bn, ir, lp]
  rw [if_neg (by omega), if_neg (by omega), if_neg (by omega)]
  exact ⟨_, _, rfl⟩
theorem nan_law {b : Nat} (h : b < 18446744073709551616) : nanB b = decide (9218868437227405312 < b % 9223372036854775808) := by
  unfold nanB
  rcases kind_cases h with hk | hk | hk
  · rw [nan_fin hk, decide_eq_false (by have := hk.2; omega)]
  · rw [decide_eq_false (by omega)]
    have : FloatKind.f64.format.order b b = some .eq := by
      show double.order b b = _
      unfold Format.order
      rw [read_inf h hk]
      cases sgn b <;> rfl
    rw [this]; rfl
  · rw [decide_eq_true hk]
    have : FloatKind.f64.format.order b b = none := by
      show double.order b b = _
      obtain ⟨s, f, hr⟩ := read_nan hk
      unfold Format.order
      rw [hr]; rfl
    rw [this]; rfl
theorem inf_law {b : Nat} (h : b < 18446744073709551616) : infB? b = (b % 9223372036854775808 == 9218868437227405312) := by
  have hu : infB? b = (FloatKind.f64.format.order (b % 9223372036854775808) 9218868437227405311 == some .gt) := by
    unfold infB? math_IsInf.f math_Abs.f
    rw [if_pos rfl, Option.bind_some, bits_abs b h]
    simp only [Int.toNat_natCast, Option.getD_some]
  rw [hu]
  rcases kind_cases h with hk | hk | hk
  · rw [order_max hk]
    have := hk.2
    symm; rw [beq_eq_false_iff_ne]; omega
  · rw [hk]; decide
  · have : FloatKind.f64.format.order (b % 9223372036854775808) 9218868437227405311 = none := by
      show double.order _ _ = _
      obtain ⟨s, f, hr⟩ := read_nan (b := b % 9223372036854775808) (by omega)
      unfold Format.order
      rw [hr]; rfl
    rw [this]
    have : (b % 9223372036854775808 == 9218868437227405312) = false := by rw [beq_eq_false_iff_ne]; omega
    rw [this]; rfl
theorem flz_zero {b : Nat} (h : Fin64 b) : flz b = 0 ↔ b % 9223372036854775808 = 0 := by
  have hp : (0 : Int) < 2 ^ (expoV b + 1074).toNat := Int.pow_pos (by omega)
  have h1 : flz b = 0 ↔ manti b = 0 := by
    have hf := @floV_natAbs b
    unfold flz
    constructor
    · intro h
      rcases Int.mul_eq_zero.1 h with h | h <;> omega
    · intro h
      have : floV b = 0 := by omega
      rw [this, Int.zero_mul]
  rw [h1]
  have hx := expo_le h
  have := h.1
  unfold manti frac expo at *
  split <;> omega
theorem signbit_law {b : Nat} (h : b < 18446744073709551616) : math_Signbit.f b = some (decide (9223372036854775808 ≤ b)) := by
  unfold math_Signbit.f
  congr 1
  rw [decide_eq_decide]
  unfold wrap64
  omega
end Go.Proofs.YthmeocigliephaaGreatDoor.Big
end
section
namespace Go.Proofs.YthmeocigliephaaGreatDoor.Big
open Go.Proofs.YthmeocigliephaaGreatDoor.PSu Go.Proofs.YthmeocigliephaaGreatDoor.Plain Ieee
def sumV (a b : Nat) : Nat :=
  if nanB a = true ∨ nanB b = true then 9221120237041090561
  else if infB? a = true then a else if infB? b = true then b
  else if flz a + flz b = 0 then (if sgn a = true ∧ sgn b = true then 9223372036854775808 else 0) else rndZ (flz a + flz b) 2
def opp (a b : Nat) : Prop := infB? a = true ∧ infB? b = true ∧ sgn a ≠ sgn b
theorem fin_kind {b : Nat} (h : b < 18446744073709551616) (h1 : nanB b = false) (h2 : infB? b = false) : Fin64 b := fin_of h h1 h2
theorem kind_fin {b : Nat} (h : Fin64 b) : nanB b = false ∧ infB? b = false := by
  rw [nan_law h.1, inf_law h.1]
  have := h.2
  exact ⟨decide_eq_false (by omega), by rw [beq_eq_false_iff_ne]; omega⟩
theorem add_inf {a b : Nat} (ha : a < 18446744073709551616) (hb : b < 18446744073709551616) (h1 : infB? a = true ∨ infB? b = true) (h2 : nanB a = false) (h3 : nanB b = false) (h4 : ¬ opp a b) :
    floatBits .add .f64 a b = some (if infB? a = true then a else b) := by
  have ri : ∀ {x : Nat}, x < 18446744073709551616 → infB? x = true → double.read x = .infinity (sgn x) ∧ double.write (.infinity (sgn x)) = x := by
    intro x hx h
    rw [inf_law hx] at h
    have h := beq_iff_eq.1 h
    refine ⟨read_inf hx h, ?_⟩
    have : x = 9218868437227405312 ∨ x = 18442240474082181120 := by omega
    rcases this with rfl | rfl <;> rfl
  show double.add a b = _
  unfold Format.add
  by_cases ia : infB? a = true
  · obtain ⟨r1, w1⟩ := ri ha ia
    rw [r1, if_pos ia]
    by_cases ib : infB? b = true
    · obtain ⟨r2, w2⟩ := ri hb ib
      have he : sgn a = sgn b := Classical.byContradiction fun h => h4 ⟨ia, ib, h⟩
      rw [r2]
      unfold Datum.sum
      simp only
      rw [if_pos he, Option.map_some, w1]
    · have fb := fin_kind hb h3 (by simpa using ib)
      rw [read_fin fb]
      unfold Datum.sum
      simp only
      rw [Option.map_some, w1]
  · have ib : infB? b = true := h1.resolve_left ia
    have fa := fin_kind ha h2 (by simpa using ia)
    obtain ⟨r2, w2⟩ := ri hb ib
    rw [r2, read_fin fa, if_neg ia]
    unfold Datum.sum
    simp only
    rw [Option.map_some, w2]
theorem oz_law {x : Nat} (hx : Fin64 x) : (FloatKind.f64.format.order x 0 == some .eq) = decide (flz x = 0) := by
  have h0 : Fin64 0 := by decide
  have z0 : flz 0 = 0 := (flz_zero h0).2 rfl
  rw [order_fin hx h0, z0]
  by_cases hz : flz x = 0
  · rw [hz]; rfl
  · rw [decide_eq_false hz, beq_eq_false_iff_ne]
    intro hc
    exact hz (Int.compare_eq_eq.1 (Option.some.inj hc))
theorem sg_law {x : Nat} (hz : flz x ≠ 0) : sgn x = decide (flz x < 0) := by
  have hp : (0 : Int) < 2 ^ (expoV x + 1074).toNat := Int.pow_pos (by omega)
  have hm : manti x ≠ 0 := fun hm => hz (by unfold flz floV; rw [hm]; simp)
  unfold flz floV
  cases hs : sgn x
  · rw [if_neg (by simp)]
    have := Int.mul_pos (show (0 : Int) < manti x by omega) hp
    rw [decide_eq_false (by omega)]
  · rw [if_pos rfl]
    have := Int.mul_pos (show (0 : Int) < manti x by omega) hp
    rw [Int.neg_mul, decide_eq_true (by omega)]
theorem rnd_lt (z : Int) (mode : Int) : rndZ z mode < 18446744073709551616 := by
  unfold rndZ
  split
  · omega
  · rename_i h
    have hn : z.natAbs ≠ 0 := by omega
    rw [roundV_eq]
    have := magV_le z.natAbs (-1074) (if decide (z < 0) = true then mode == 1 else mode == 3) (mode == 2) hn
    unfold infB at this
    unfold signV
    generalize magV z.natAbs (-1074) (if decide (z < 0) = true then mode == 1 else mode == 3) (mode == 2) = q at this ⊢
    split <;> omega
theorem sumV_lt {a b : Nat} (ha : a < 18446744073709551616) (hb : b < 18446744073709551616) : sumV a b < 18446744073709551616 := by
  unfold sumV
  split
  · omega
  · split
    · exact ha
    · split
      · exact hb
      · split
        · split <;> omega
        · exact rnd_lt _ _
theorem opp_cases {a b : Nat} (ha : a < 18446744073709551616) (hb : b < 18446744073709551616) (h : opp a b) : (a = 9218868437227405312 ∧ b = 18442240474082181120) ∨ (a = 18442240474082181120 ∧ b = 9218868437227405312) := by
  obtain ⟨h1, h2, h3⟩ := h
  rw [inf_law ha] at h1
  rw [inf_law hb] at h2
  have h1 := beq_iff_eq.1 h1
  have h2 := beq_iff_eq.1 h2
  have ca : a = 9218868437227405312 ∨ a = 18442240474082181120 := by omega
  have cb : b = 9218868437227405312 ∨ b = 18442240474082181120 := by omega
  rcases ca with rfl | rfl <;> rcases cb with rfl | rfl
  · exact absurd rfl h3
  · exact .inl ⟨rfl, rfl⟩
  · exact .inr ⟨rfl, rfl⟩
  · exact absurd rfl h3
def nanR (x y : Nat) (w : World) : Nat := Question.cut (.nanBits .f64 x y) (w.tape w.drawn (.nanBits .f64 x y))
theorem nanR_nan (x y : Nat) (w : World) : nanB (nanR x y w) = true ∧ nanR x y w < 18446744073709551616 := by
  have : nanR x y w < 18446744073709551616 ∧ 9218868437227405312 < nanR x y w % 9223372036854775808 := by
    unfold nanR Question.cut
    simp only
    generalize w.tape w.drawn (.nanBits .f64 x y) = t
    have hu : t % 2 = 0 ∨ t % 2 = 1 := by omega
    have hv : t / 2 % (2 ^ 52 - 1) < 2 ^ 52 - 1 := Nat.mod_lt _ (by decide)
    generalize t / 2 % (2 ^ 52 - 1) = v at hv ⊢
    rcases hu with hu | hu <;> rw [hu] <;> omega
  exact ⟨by rw [nan_law this.1, decide_eq_true this.2], this.1⟩
theorem run_nan {P : Program} (x y : Nat) (t : TypeId) (w : World) (h : floatBits .add .f64 x y = none) : (binOp .add t (.float .f64 x) (.float .f64 y)).run P w = .ok (.float .f64 (nanR x y w)) w.drew := by
  have h' : FloatKind.f64.format.add x y = none := h
  simp [binOp, Op.floatArith, h', Question.forced, nanR]
instance instDecOpp (a b : Nat) : Decidable (opp a b) := inferInstanceAs (Decidable (_ ∧ _ ∧ _))
def relN (r t : Nat) : Prop := r = t ∨ nanB r = true ∧ nanB t = true
def sumT (a b : Nat) : Nat := if opp a b then 9221120237041090560 else sumV a b
theorem sumT_lt {a b : Nat} (ha : a < 18446744073709551616) (hb : b < 18446744073709551616) : sumT a b < 18446744073709551616 := by
  unfold sumT
  split
  · omega
  · exact sumV_lt ha hb
theorem sumV_nan {a b : Nat} (h : nanB a = true ∨ nanB b = true) : sumV a b = 9221120237041090561 := by unfold sumV; rw [if_pos h]
theorem nan_not_inf {b : Nat} (hb : b < 18446744073709551616) (h : nanB b = true) : infB? b = false := by
  rw [nan_law hb] at h
  rw [inf_law hb, beq_eq_false_iff_ne]
  have := of_decide_eq_true h
  omega
theorem sumT_nan {a b : Nat} (ha : a < 18446744073709551616) (hb : b < 18446744073709551616) (h : nanB a = true ∨ nanB b = true) : nanB (sumT a b) = true := by
  unfold sumT
  rw [if_neg]
  · rw [sumV_nan h]; decide +kernel
  · rintro ⟨h1, h2, _⟩
    rcases h with h | h
    · rw [nan_not_inf ha h] at h1; cases h1
    · rw [nan_not_inf hb h] at h2; cases h2
theorem relN_sum {a b a' b' : Nat} (ha : a < 18446744073709551616) (hb : b < 18446744073709551616) (ha' : a' < 18446744073709551616) (hb' : b' < 18446744073709551616) (h1 : relN a a') (h2 : relN b b') : relN (sumT a b) (sumT a' b') := by
  rcases h1 with rfl | ⟨n1, n2⟩
  · rcases h2 with rfl | ⟨n1, n2⟩
    · exact .inl rfl
    · exact .inr ⟨sumT_nan ha hb (.inr n1), sumT_nan ha hb' (.inr n2)⟩
  · exact .inr ⟨sumT_nan ha hb (.inl n1), sumT_nan ha' hb' (.inl n2)⟩
theorem relN_eq {r t : Nat} (h : relN r t) (hn : nanB t = false) : r = t := by
  rcases h with h | ⟨_, h⟩
  · exact h
  · rw [h] at hn; cases hn
theorem relN_trans {a b c : Nat} (h1 : relN a b) (h2 : relN b c) : relN a c := by
  rcases h1 with rfl | ⟨n1, n2⟩
  · exact h2
  · rcases h2 with rfl | ⟨_, n4⟩
    · exact .inr ⟨n1, n2⟩
    · exact .inr ⟨n1, n4⟩
end Go.Proofs.YthmeocigliephaaGreatDoor.Big
end
section
namespace Go.Proofs.YthmeocigliephaaGreatDoor.Big
open Go.Proofs.YthmeocigliephaaGreatDoor.PSu Go.Proofs.YthmeocigliephaaGreatDoor.Plain
def RetRel (t : Nat) (w : World) (e : Ending) (w' : World) : Prop := ∃ r, relN r t ∧ r < 18446744073709551616 ∧ e = .returned (.float .f64 r) ∧ Below w.heap.size w w'
theorem rnum_fin (b : Nat) (w : World) (hb : Fin64 b) (hL : Laid w) :
    Calls Tryz.prog 115 #[.float .f64 b] w fun e w' => ∃ v1_ : Value, e = .returned (.agg #[.bool (canN (flz b) (-1074)).1, v1_, .int .i64 (canN (flz b) (-1074)).2.2]) ∧ Kd.R (Kd.int .u32) 83 w' w.heap.size (fun _ => True) v1_ (canN (flz b) (-1074)).2.1 ∧ Below w.heap.size w w' :=
  round_num.calls b _ _ _ w (by rw [rnum_law hb]) hL
theorem nought_fin (a b : Nat) (w : World) (ha : Fin64 a) (hb : Fin64 b) (h : flz a + flz b = 0) :
    Calls Tryz.prog 116 #[.float .f64 a, .float .f64 b, .int .i64 2] w fun e w' => e = .returned (.float .f64 (if sgn a = true ∧ sgn b = true then 9223372036854775808 else 0)) ∧ Below w.heap.size w w' := by
  have sa := asd (show math_Signbit.f a = some (sgn a) from signbit_law ha.1)
  have sb := asd (show math_Signbit.f b = some (sgn b) from signbit_law hb.1)
  have oa := oz_law ha
  have ob := oz_law hb
  have tok1 : True := trivial
  by_cases za : flz a = 0
  · have zb : flz b = 0 := by omega
    rw [decide_eq_true za] at oa
    rw [decide_eq_true zb] at ob
    clear ha hb h za zb
    rcases hx : sgn a with _ | _ <;> rcases hy : sgn b with _ | _ <;> rw [hx] at sa <;> rw [hy] at sb <;> clear hx hy
    all_goals
      go_enter Tryz.func116, Tryz.ntmps116
      go_wp2_with (first
        | (go_at_call 54; have _t := tok1; refine (math_Signbit.calls a _ _ sa.out).mono ?_; rintro e w1 ⟨rfl, d⟩; have B1 := asd d.below; clear d _t tok1)
        | (go_at_call 54; refine (math_Signbit.calls b _ _ sb.out).mono ?_; rintro e w2 ⟨rfl, d⟩; have B2 := asd (below_post d.below B1.out); clear d)
        | (go_at_call 55; refine (math_Copysign.calls 0 13830554455654793216 9223372036854775808 _ (by decide)).mono ?_; rintro e w3 ⟨rfl, d⟩; have B2 := asd (below_post d.below B2.out); clear d))
      go_ret
      exact ⟨rfl, B2.out⟩
  · have zb : flz b ≠ 0 := by omega
    rw [decide_eq_false za] at oa
    have hn : ¬ (sgn a = true ∧ sgn b = true) := by
      rw [sg_law za, sg_law zb, decide_eq_true_eq, decide_eq_true_eq]; omega
    rw [if_neg hn]
    clear ha hb h za zb ob hn
    obtain ⟨x, hx⟩ : ∃ x, sgn a = x := ⟨_, rfl⟩
    obtain ⟨y, hy⟩ : ∃ y, sgn b = y := ⟨_, rfl⟩
    rw [hx] at sa
    rw [hy] at sb
    clear hx hy
    go_enter Tryz.func116, Tryz.ntmps116
    go_wp2_with (first
      | (go_at_call 54; have _t := tok1; refine (math_Signbit.calls a _ _ sa.out).mono ?_; rintro e w1 ⟨rfl, d⟩; have B1 := asd d.below; clear d _t tok1)
      | (go_at_call 54; refine (math_Signbit.calls b _ _ sb.out).mono ?_; rintro e w2 ⟨rfl, d⟩; have B2 := asd (below_post d.below B1.out); clear d))
    go_ret
    exact ⟨rfl, B2.out⟩
section
variable (a b : Nat) (w : World)
theorem add_nan (h : nanB a = true ∨ nanB b = true) : Calls Tryz.prog 84 #[.float .f64 a, .float .f64 b, .int .i64 2] w fun e w' => e = .returned (.float .f64 9221120237041090561) ∧ Below w.heap.size w w' := by
  have HV := asd (round_yes (m := 2) (by omega))
  have tok1 : True := trivial
  rcases hx : nanB a with _ | _
  · have hb : (FloatKind.f64.format.order b b != some .eq) = true := h.resolve_left (by rw [hx]; simp)
    have ha : (FloatKind.f64.format.order a a != some .eq) = false := hx
    clear h hx
    go_enter Tryz.func84, Tryz.ntmps84
    go_wp2_with (first
      | (go_at_call 49; refine (round_Valid.calls 2 0 _ HV.out).mono ?_; rintro e w1 ⟨rfl, d⟩; have B1 := asd d.below; clear d)
      | (go_at_call 113; refine (math_NaN.calls _ _ rfl).mono ?_; rintro e w2 ⟨rfl, d⟩; have B2 := asd (below_post d.below B1.out); clear d))
    go_ret
    exact ⟨rfl, B2.out⟩
  · have ha : (FloatKind.f64.format.order a a != some .eq) = true := hx
    clear h hx
    go_enter Tryz.func84, Tryz.ntmps84
    go_wp2_with (first
      | (go_at_call 49; refine (round_Valid.calls 2 0 _ HV.out).mono ?_; rintro e w1 ⟨rfl, d⟩; have B1 := asd d.below; clear d)
      | (go_at_call 113; refine (math_NaN.calls _ _ rfl).mono ?_; rintro e w2 ⟨rfl, d⟩; have B2 := asd (below_post d.below B1.out); clear d))
    go_ret
    exact ⟨rfl, B2.out⟩
theorem infinite_any (x : Nat) : round_infinite.f x = some (infB? x) := by
  unfold round_infinite.f
  rw [inf_some x]; rfl
theorem add_infs (h1 : nanB a = false) (h2 : nanB b = false) (h : infB? a = true ∨ infB? b = true) (v : Nat) (hv : floatBits .add .f64 a b = some v) :
    Calls Tryz.prog 84 #[.float .f64 a, .float .f64 b, .int .i64 2] w fun e w' => e = .returned (.float .f64 v) ∧ Below w.heap.size w w' := by
  have HV := asd (round_yes (m := 2) (by omega))
  have ha : (FloatKind.f64.format.order a a != some .eq) = false := h1
  have hb : (FloatKind.f64.format.order b b != some .eq) = false := h2
  have hrun := fun (w : World) => run_float_arith (P := Tryz.prog) w .add 25 .f64 a b v hv
  have IA := asd (infinite_any a)
  have IB := asd (infinite_any b)
  have tok1 : True := trivial
  rcases hx : infB? a with _ | _
  · have hy := h.resolve_left (by rw [hx]; simp)
    rw [hx] at IA
    rw [hy] at IB
    clear h h1 h2 hx hy hv
    go_enter Tryz.func84, Tryz.ntmps84
    go_wp2_with (first
      | (go_at_call 49; refine (round_Valid.calls 2 0 _ HV.out).mono ?_; rintro e w1 ⟨rfl, d⟩; have B1 := asd d.below; clear d)
      | (go_at_call 114; have _t := tok1; refine (round_infinite.calls a _ _ IA.out).mono ?_; rintro e w2 ⟨rfl, d⟩; have B2 := asd (below_post d.below B1.out); clear d _t tok1)
      | (go_at_call 114; refine (round_infinite.calls b _ _ IB.out).mono ?_; rintro e w3 ⟨rfl, d⟩; have B3 := asd (below_post d.below B2.out); clear d))
    go_ret
    exact ⟨rfl, B3.out⟩
  · rw [hx] at IA
    clear h h1 h2 hx hv
    go_enter Tryz.func84, Tryz.ntmps84
    go_wp2_with (first
      | (go_at_call 49; refine (round_Valid.calls 2 0 _ HV.out).mono ?_; rintro e w1 ⟨rfl, d⟩; have B1 := asd d.below; clear d)
      | (go_at_call 114; refine (round_infinite.calls a _ _ IA.out).mono ?_; rintro e w2 ⟨rfl, d⟩; have B2 := asd (below_post d.below B1.out); clear d))
    go_ret
    exact ⟨rfl, B2.out⟩
theorem add_opp (h : (a = 9218868437227405312 ∧ b = 18442240474082181120) ∨ (a = 18442240474082181120 ∧ b = 9218868437227405312)) :
    Calls Tryz.prog 84 #[.float .f64 a, .float .f64 b, .int .i64 2] w fun e w' => ∃ r, nanB r = true ∧ r < 18446744073709551616 ∧ e = .returned (.float .f64 r) ∧ Below w.heap.size w w' := by
  have ha : (FloatKind.f64.format.order a a != some .eq) = false := by rcases h with ⟨rfl, rfl⟩ | ⟨rfl, rfl⟩ <;> decide +kernel
  have hb : (FloatKind.f64.format.order b b != some .eq) = false := by rcases h with ⟨rfl, rfl⟩ | ⟨rfl, rfl⟩ <;> decide +kernel
  have hi : round_infinite.f a = some true := by rcases h with ⟨rfl, rfl⟩ | ⟨rfl, rfl⟩ <;> decide +kernel
  have hn : floatBits .add .f64 a b = none := by rcases h with ⟨rfl, rfl⟩ | ⟨rfl, rfl⟩ <;> decide +kernel
  have hrun := fun (w : World) => run_nan (P := Tryz.prog) a b 25 w hn
  have HI := asd hi
  have HV := asd (round_yes (m := 2) (by omega))
  clear hi hn h
  go_enter Tryz.func84, Tryz.ntmps84
  go_wp2_with (first
    | (go_at_call 49; refine (round_Valid.calls 2 0 _ HV.out).mono ?_; rintro e w1 ⟨rfl, d⟩; have B1 := asd d.below; clear d)
    | (go_at_call 114; refine (round_infinite.calls a true _ HI.out).mono ?_; rintro e w2 ⟨rfl, d⟩; have B2 := asd (below_post d.below B1.out); clear d))
  go_ret
  exact ⟨_, (nanR_nan _ _ _).1, (nanR_nan _ _ _).2, rfl, B2.out.drew⟩
theorem add_fin (fa : Fin64 a) (fb : Fin64 b) (hL : Laid w) :
    Calls Tryz.prog 84 #[.float .f64 a, .float .f64 b, .int .i64 2] w fun e w' => e = .returned (.float .f64 (if flz a + flz b = 0 then (if sgn a = true ∧ sgn b = true then 9223372036854775808 else 0) else rndZ (flz a + flz b) 2)) ∧ Below w.heap.size w w' := by
  have b1 : bl (flz a).natAbs ≤ 2098 := bl_le.2 (flz_lt fa)
  have b2 : bl (flz b).natAbs ≤ 2098 := bl_le.2 (flz_lt fb)
  have b3 := sum_bl fa fb
  have HV := asd (round_yes (m := 2) (by omega))
  have ha : (FloatKind.f64.format.order a a != some .eq) = false := nan_fin fa
  have hb : (FloatKind.f64.format.order b b != some .eq) = false := nan_fin fb
  have IA := asd (inf_fin fa)
  have IB := asd (inf_fin fb)
  have FA := asd fa
  have FB := asd fb
  have HL := asd hL
  have ADD := asd (dadd_law (x := flz a) (y := flz b) (by omega) (by omega))
  have SGN := asd (sign_can (z := flz a + flz b) (by omega))
  have RND := asd (round_can (z := flz a + flz b) (mode := 2) (by omega) (by omega))
  obtain ⟨SG, hSG⟩ : ∃ s, (if flz a + flz b = 0 then (0 : Int) else if flz a + flz b < 0 then -1 else 1) = s := ⟨_, rfl⟩
  rw [hSG] at SGN
  have ZZ := asd (show SG = 0 ↔ flz a + flz b = 0 by
    rw [← hSG]; constructor
    · intro h; split at h
      · assumption
      · split at h <;> omega
    · intro h; rw [if_pos h])
  obtain ⟨⟨n, m, ex⟩, hs⟩ : ∃ r, canN (flz a + flz b) (-1074) = r := ⟨_, rfl⟩
  rw [hs] at ADD SGN RND
  simp only at ADD SGN RND
  have tok1 : True := trivial
  clear fa fb hL b1 b2 b3 hSG hs
  by_cases hz : flz a + flz b = 0
  · rw [if_pos hz]
    obtain ⟨v, hv⟩ : ∃ v, (if sgn a = true ∧ sgn b = true then 9223372036854775808 else 0) = v := ⟨_, rfl⟩
    rw [hv]
    have HVV := asd hv
    clear hv
    have HZ := asd hz
    have s0 : (SG == 0) = true := by rw [ZZ.out.2 hz]; rfl
    clear hz
    go_enter Tryz.func84, Tryz.ntmps84
    go_wp2_with (first
      | (go_at_call 49; refine (round_Valid.calls 2 0 _ HV.out).mono ?_; rintro e w1 ⟨rfl, d⟩; have B1 := asd d.below; clear d)
      | (go_at_call 114; have _t := tok1; refine (round_infinite.calls a _ _ IA.out).mono ?_; rintro e w2 ⟨rfl, d⟩; have B2 := asd (below_post d.below B1.out); have tok2 : True := trivial; clear d _t tok1)
      | (go_at_call 114; refine (round_infinite.calls b _ _ IB.out).mono ?_; rintro e w3 ⟨rfl, d⟩; have B3 := asd (below_post d.below B2.out); clear d)
      | (go_at_call 115; have _t := tok2; refine (rnum_fin a _ FA.out (HL.out.step B3.out)).mono ?_; rintro e w4 ⟨v4, rfl, r4, d⟩; obtain ⟨A4, c4, hv4⟩ := Kd.R_slice r4; subst hv4; have R4 := asd (Kd.R_reads' r4); have B4 := asd (below_post d B3.out); clear d r4 _t tok2)
      | (go_at_call 115; refine (rnum_fin b _ FB.out (HL.out.step B4.out)).mono ?_; rintro e w5 ⟨v5, rfl, r5, d⟩; obtain ⟨A5, c5, hv5⟩ := Kd.R_slice r5; subst hv5; have R5 := asd (Kd.R_reads' r5); have C4 := asd (Kd.C_below R4.out.2.2 d); have B5 := asd (below_post d B4.out); clear d r5)
      | (go_at_call 79; refine (dyad_Add.calls _ A4 c4 _ _ _ A5 c5 _ _ n m ex 0 _ C4.out R4.out.2.1 R5.out.2.2 R5.out.2.1 ADD.out (HL.out.step B5.out)).mono ?_; rintro e w6 ⟨v6, rfl, r6, d⟩; obtain ⟨A6, c6, hv6⟩ := Kd.R_slice r6; subst hv6; have R6 := asd (Kd.R_reads' r6); have B6 := asd (below_post d B5.out); clear d r6)
      | (go_at_call 51; refine (dyad_Sign.calls 1 n A6 c6 m ex SG _ (Kd.C_below R6.out.2.2 (by exact (Below.refl _ _).alloc (Nat.le_refl _) _)) R6.out.2.1 SGN.out).mono ?_; rintro e w7 ⟨rfl, d⟩; have B7 := asd (below_post d (by exact B6.out.alloc B6.out.size _)); clear d)
      | (go_at_call 116; refine (nought_fin a b _ FA.out FB.out HZ.out).mono ?_; rw [HVV.out]; rintro e w8 ⟨rfl, d⟩; have B8 := asd (below_post d B7.out); clear d))
    go_ret
    exact ⟨rfl, B8.out⟩
  · rw [if_neg hz]
    have s0 : (SG == 0) = false := by rw [beq_eq_false_iff_ne]; exact fun h => hz (ZZ.out.1 h)
    clear hz
    go_enter Tryz.func84, Tryz.ntmps84
    go_wp2_with (first
      | (go_at_call 49; refine (round_Valid.calls 2 0 _ HV.out).mono ?_; rintro e w1 ⟨rfl, d⟩; have B1 := asd d.below; clear d)
      | (go_at_call 114; have _t := tok1; refine (round_infinite.calls a _ _ IA.out).mono ?_; rintro e w2 ⟨rfl, d⟩; have B2 := asd (below_post d.below B1.out); have tok2 : True := trivial; clear d _t tok1)
      | (go_at_call 114; refine (round_infinite.calls b _ _ IB.out).mono ?_; rintro e w3 ⟨rfl, d⟩; have B3 := asd (below_post d.below B2.out); clear d)
      | (go_at_call 115; have _t := tok2; refine (rnum_fin a _ FA.out (HL.out.step B3.out)).mono ?_; rintro e w4 ⟨v4, rfl, r4, d⟩; obtain ⟨A4, c4, hv4⟩ := Kd.R_slice r4; subst hv4; have R4 := asd (Kd.R_reads' r4); have B4 := asd (below_post d B3.out); clear d r4 _t tok2)
      | (go_at_call 115; refine (rnum_fin b _ FB.out (HL.out.step B4.out)).mono ?_; rintro e w5 ⟨v5, rfl, r5, d⟩; obtain ⟨A5, c5, hv5⟩ := Kd.R_slice r5; subst hv5; have R5 := asd (Kd.R_reads' r5); have C4 := asd (Kd.C_below R4.out.2.2 d); have B5 := asd (below_post d B4.out); clear d r5)
      | (go_at_call 79; refine (dyad_Add.calls _ A4 c4 _ _ _ A5 c5 _ _ n m ex 0 _ C4.out R4.out.2.1 R5.out.2.2 R5.out.2.1 ADD.out (HL.out.step B5.out)).mono ?_; rintro e w6 ⟨v6, rfl, r6, d⟩; obtain ⟨A6, c6, hv6⟩ := Kd.R_slice r6; subst hv6; have R6 := asd (Kd.R_reads' r6); have N6 := asd (show NumB (w6.alloc (.cells #[.bool n, .slice A6 m.length c6, .int .i64 ex] 60 (0, 0))) w6.heap.size n (.slice A6 m.length c6) ex from blk_new _ _); have B6 := asd (below_post d B5.out); clear d r6)
      | (go_at_call 51; refine (dyad_Sign.calls 1 n A6 c6 m ex SG _ (Kd.C_below R6.out.2.2 (by exact (Below.refl _ _).alloc (Nat.le_refl _) _)) R6.out.2.1 SGN.out).mono ?_; rintro e w7 ⟨rfl, d⟩; have B7 := asd (below_post d (by exact B6.out.alloc B6.out.size _)); have C7 := asd (Kd.C_below (Kd.C_below R6.out.2.2 ((Below.refl _ _).alloc (Nat.le_refl _) _)) d); have N7 := asd (N6.out.below d); have q0 := N7.out.c0; have q1 := N7.out.c1; have q2 := N7.out.c2; clear d)
      | (go_at_call 117; refine (round_to.calls n A6 c6 m ex 2 (rndZ (flz a + flz b) 2) _ C7.out R6.out.2.1 (by unfold round_to.f; rw [RND.out]; rfl)).mono ?_; rintro e w8 ⟨rfl, d⟩; have B8 := asd (below_post d B7.out); clear d))
    go_ret
    exact ⟨rfl, B8.out⟩
theorem near_rel (ha : a < 18446744073709551616) (hb : b < 18446744073709551616) (hL : Laid w) : Calls Tryz.prog 39 #[.float .f64 a, .float .f64 b] w (RetRel (sumT a b) w) := by
  have key : Calls Tryz.prog 84 #[.float .f64 a, .float .f64 b, .int .i64 2] w (RetRel (sumT a b) w) := by
    unfold sumT
    by_cases ho : opp a b
    · rw [if_pos ho]
      exact (add_opp a b w (opp_cases ha hb ho)).mono fun e w' ⟨r, h1, h2, h3, h4⟩ => ⟨r, .inr ⟨h1, by decide +kernel⟩, h2, h3, h4⟩
    · rw [if_neg ho]
      unfold sumV
      by_cases hn : nanB a = true ∨ nanB b = true
      · rw [if_pos hn]
        exact (add_nan a b w hn).mono fun e w' ⟨h3, h4⟩ => ⟨_, .inl rfl, by omega, h3, h4⟩
      · have n1 : nanB a = false := by cases h : nanB a; rfl; exact absurd (.inl h) hn
        have n2 : nanB b = false := by cases h : nanB b; rfl; exact absurd (.inr h) hn
        rw [if_neg hn]
        by_cases hi : infB? a = true ∨ infB? b = true
        · have hv := add_inf ha hb hi n1 n2 ho
          refine (add_infs a b w n1 n2 hi _ hv).mono fun e w' ⟨h3, h4⟩ => ⟨_, .inl ?_, ?_, h3, h4⟩
          · by_cases ia : infB? a = true
            · rw [if_pos ia, if_pos ia]
            · rw [if_neg ia, if_neg ia, if_pos (hi.resolve_left ia)]
          · split <;> assumption
        · have i1 : infB? a = false := by cases h : infB? a; rfl; exact absurd (.inl h) hi
          have i2 : infB? b = false := by cases h : infB? b; rfl; exact absurd (.inr h) hi
          rw [i1, i2, if_neg (by simp), if_neg (by simp)]
          refine (add_fin a b w (fin_kind ha n1 i1) (fin_kind hb n2 i2) hL).mono fun e w' ⟨h3, h4⟩ => ⟨_, .inl rfl, ?_, h3, h4⟩
          split
          · split <;> omega
          · exact rnd_lt _ _
  have K := asd key
  clear key ha hb hL
  go_enter Tryz.func39, Tryz.ntmps39
  go_wp2_with (go_at_call 84; refine (K.out).mono ?_; rintro e w1 ⟨r, n1, n2, rfl, d⟩; have N1 := asd (And.intro n1 (And.intro n2 d)); clear n1 n2 d)
  go_ret
  exact ⟨_, N1.out.1, N1.out.2.1, rfl, N1.out.2.2⟩
end
end Go.Proofs.YthmeocigliephaaGreatDoor.Big
end
section
namespace Go.Proofs.YthmeocigliephaaGreatDoor.Big
open Go.Proofs.YthmeocigliephaaGreatDoor.PSu Go.Proofs.YthmeocigliephaaGreatDoor.Plain
def rowT : List Nat → Nat
  | [] => 0
  | a :: l => l.foldl sumT a
theorem rd_lt {l : List Nat} (hw : ∀ b ∈ l, b < 18446744073709551616) (i : Int) : rdOf (0 : Nat) l i < 18446744073709551616 := by
  unfold rdOf
  by_cases h : i.toNat < l.length
  · rw [List.getD_eq_getElem?_getD, List.getElem?_eq_getElem h]
    exact hw _ (List.getElem_mem h)
  · rw [List.getD_eq_getElem?_getD, List.getElem?_eq_none (by omega)]; simp
theorem relN_self (a : Nat) : relN a a := .inl rfl
theorem row_rel (A : Option Addr) (c : Nat) (l : List Nat) (w : World) (hr : Kd.C Kd.float w A l.length l) (hc : l.length ≤ c) (hn : l.length < 4611686018427387904) (hw : ∀ b ∈ l, b < 18446744073709551616) (hL : Laid w) :
    Calls Tryz.prog 12 #[.slice A l.length c] w (RetRel (rowT l) w) := by
  have HL := asd hL
  have HB := asd (Below.refl w.heap.size w)
  by_cases c2 : (l.length : Int) = 0
  · have c2b0 : ((l.length : Int) == 0) = true := beq_iff_eq.mpr c2
    obtain rfl : l = [] := List.length_eq_zero_iff.1 (by omega)
    clear c2 hL hn hw hr hc
    go_enter Tryz.func12, Tryz.ntmps12
    go_wp2
    go_ret
    exact ⟨0, .inl rfl, by omega, rfl, HB.out⟩
  · have c2b0 : ((l.length : Int) == 0) = false := beq_eq_false_iff_ne.mpr c2
    obtain ⟨T, hT⟩ : ∃ T, rowT l = T := ⟨_, rfl⟩
    rw [hT]
    have HT := asd (show (l.drop (1 + 0)).foldl sumT (rdOf (0 : Nat) l 0) = T by
      cases l with
      | nil => exact absurd rfl c2
      | cons a l => exact hT)
    have HW := asd hw
    have p157 : 0 ≤ (0 : Int) := by omega
    have q157 : 0 < (l.length : Int) := by omega
    obtain ⟨ad157, e157, hx157_0⟩ := Kd.at_float hr 0 p157 q157
    cases e157
    rw [show ((0 : Int)).toNat = 0 from rfl, Addr.add_zero'] at hx157_0
    obtain ⟨i05, hi05, _, hsz5, _⟩ := info_parts info25
    obtain ⟨A5, hcut5, hA5, hC5⟩ := print_drop_of (P := Tryz.prog) (Value.float .f64) (0 : Nat) 22 25 .i64 Tryz.underlying22 hi05 hsz5 (some ad157) c l 1 (by omega) (by omega) hc
    have HR := asd (show Kd.C Kd.float w A5 (l.drop 1).length (l.drop 1) from Kd.C_of_reads (h1 := fun _ => rfl) (hA5 _ (Kd.reads_of_C hr)))
    have HN := asd (show (l.drop 1).length < 4611686018427387904 by rw [List.length_drop]; omega)
    have H1 := asd (show 1 ≤ l.length by omega)
    have q1 : (1 : Int) ≤ (l.length : Int) := by omega
    have qi157 : (0 < l.length) = True := eq_true (by omega)
    replace p157 := eq_true p157
    replace q157 := eq_true q157
    replace q1 := eq_true q1
    clear hA5 hC5 hi05 hsz5 hL hr hc hn hw hT
    go_enter Tryz.func12, Tryz.ntmps12
    go_wp2
    go_loopg [3, 15] (l.drop 1).length (fun kq v3 v15 w' => ∃ (s t i : Nat), v3 = .float .f64 s ∧ v15 = .int .i64 (i : Int) ∧ Aside0 (relN s t ∧ s < 18446744073709551616 ∧ t < 18446744073709551616) ∧ Aside0 ((l.drop (1 + i)).foldl sumT t = T) ∧ Aside0 (kq + i = (l.drop 1).length) ∧ Aside0 (Below w.heap.size w w'))
    case atStart => exact ⟨rdOf (0 : Nat) l 0, rdOf (0 : Nat) l 0, 0, rfl, rfl, ⟨.inl rfl, rd_lt HW.out 0, rd_lt HW.out 0⟩, HT, ⟨by omega⟩, HB⟩
    case round =>
      clear HT HB p157 q157 q1 hx157_0 qi157 c2 c2b0
      obtain ⟨s, t, i, rfl, rfl, HS, HT, HK, HB⟩ := hrel
      have hi0 : (0 : Int) ≤ (i : Int) := by omega
      have hdl : (l.drop 1).length = l.length - 1 := List.length_drop
      cases gk with
      | zero =>
        have c1 : decide ((i : Int) < ((l.length - 1 : Nat) : Int)) = false := by have := HK.out; simp; omega
        have c1' : decide ((i : Int) < ((l.drop 1).length : Int)) = false := by have := HK.out; simp; omega
        have c1n : decide (i < l.length - 1) = false := by have := HK.out; simp; omega
        have hT := HT.out
        rw [List.drop_eq_nil_of_le (by have := HK.out; omega)] at hT
        obtain rfl : t = T := hT
        clear hdl
        go_wp2
        go_ret
        exact ⟨s, HS.out.1, HS.out.2.1, rfl, HB.out⟩
      | succ k1 =>
        have hi : i < (l.drop 1).length := by have := HK.out; omega
        have p1 : 0 ≤ (i : Int) := hi0
        have q1 : (i : Int) < ((l.drop 1).length : Int) := by omega
        have c1 : decide ((i : Int) < ((l.length - 1 : Nat) : Int)) = true := by simp; omega
        have c1' : decide ((i : Int) < ((l.drop 1).length : Int)) = true := by simp; omega
        have c1n : decide (i < l.length - 1) = true := by simp; omega
        obtain ⟨ad, e159, hx⟩ := Kd.at_float HR.out (i : Int) p1 q1
        cases e159
        replace hx := (HB.out.cell (World.block_lt_of_cell? w _ hx)).trans hx
        rw [Int.toNat_natCast] at hx
        have hT := HT.out
        have hd : l.drop (1 + i) = rdOf (0 : Nat) (l.drop 1) (i : Int) :: l.drop (1 + (i + 1)) := by
          rw [← List.drop_drop, drop_rd _ i hi, List.drop_drop]
        rw [hd, List.foldl_cons] at hT
        have HX := asd (rd_lt (fun b hb => HW.out b (List.mem_of_mem_drop hb)) (i : Int) : rdOf (0 : Nat) (l.drop 1) (i : Int) < 18446744073709551616)
        obtain ⟨x, hx0⟩ : ∃ x, rdOf (0 : Nat) (l.drop 1) (i : Int) = x := ⟨_, rfl⟩
        rw [hx0] at hx hT HX
        have HT2 := asd hT
        have HI := asd hi
        have q1x : ((i : Int) < ((l.length - 1 : Nat) : Int)) = True := eq_true (by omega)
        replace p1 := eq_true p1
        replace q1 := eq_true q1
        clear hT hd hx0 hdl hi HT
        go_wp2_with (go_at_call 39; refine (near_rel s x _ HS.out.2.1 HX.out (HL.out.step HB.out)).mono ?_; rintro e w1 ⟨r, n1, n2, rfl, d⟩; have N1 := asd (And.intro n1 n2); have HB2 := asd (below_post d HB.out); clear n1 n2 d)
        go_roundg k1
        case measure => omega
        case rel => exact ⟨r, sumT t x, i + 1, rfl, by congr 1; have := HI.out; have := HN.out; exact (w64_of (by omega) (by omega)).trans (by omega), ⟨relN_trans N1.out.1 (relN_sum HS.out.2.1 HX.out HS.out.2.2 HX.out HS.out.1 (relN_self x)), N1.out.2, sumT_lt HS.out.2.2 HX.out⟩, HT2, ⟨by have := HK.out; omega⟩, HB2⟩
end Go.Proofs.YthmeocigliephaaGreatDoor.Big
end
section
namespace Go.Proofs.YthmeocigliephaaGreatDoor.Big
open Go.Proofs.YthmeocigliephaaGreatDoor.PSu Go.Proofs.YthmeocigliephaaGreatDoor.Plain Ieee
attribute [local go_sem] neg_float
def absN (b : Nat) : Nat := (Go.bits .andNot .u64 ((b : Nat) : Int) 9223372036854775808 : Int).toNat
theorem abs_some (b : Nat) : math_Abs.f b = some (absN b) := rfl
def geN (a b : Nat) : Bool := (FloatKind.f64.format.order (absN a) (absN b)) == some .gt || (FloatKind.f64.format.order (absN a) (absN b)) == some .eq
def negN (b : Nat) : Nat := Op.negFloat .f64 b
theorem negN_law {b : Nat} (hb : b < 18446744073709551616) : negN b < 18446744073709551616 ∧ negN b % 9223372036854775808 = b % 9223372036854775808 := by
  have h : negN b = b ^^^ 2 ^ 63 := rfl
  rw [h]
  refine ⟨Nat.xor_lt_two_pow (n := 64) hb (by decide), ?_⟩
  have : (b ^^^ 2 ^ 63) % 2 ^ 63 = b % 2 ^ 63 := by
    rw [Nat.xor_mod_two_pow, Nat.mod_self, Nat.xor_zero]
  exact this
theorem negN_lt {b : Nat} (hb : b < 18446744073709551616) : negN b < 18446744073709551616 := (negN_law hb).1
theorem negN_nan {b : Nat} (hb : b < 18446744073709551616) : nanB (negN b) = nanB b := by
  rw [nan_law (negN_lt hb), nan_law hb, (negN_law hb).2]
theorem relN_neg {a b : Nat} (ha : a < 18446744073709551616) (hb : b < 18446744073709551616) (h : relN a b) : relN (negN a) (negN b) := by
  rcases h with rfl | ⟨h1, h2⟩
  · exact .inl rfl
  · exact .inr ⟨by rw [negN_nan ha, h1], by rw [negN_nan hb, h2]⟩
theorem absN_law {b : Nat} (hb : b < 18446744073709551616) : absN b = b % 9223372036854775808 := by
  unfold absN
  rw [bits_abs b hb, Int.toNat_natCast]
theorem geN_nan {a : Nat} (ha : a < 18446744073709551616) (b : Nat) (h : nanB a = true) : geN a b = false := by
  rw [nan_law ha, decide_eq_true_eq] at h
  have : FloatKind.f64.format.order (absN a) (absN b) = none := by
    show double.order _ _ = _
    rw [absN_law ha]
    obtain ⟨s, f, hr⟩ := read_nan (b := a % 9223372036854775808) (by omega)
    unfold Format.order
    rw [hr]; rfl
  unfold geN
  rw [this]; rfl
theorem relN_ge {a b : Nat} (ha : a < 18446744073709551616) (hb : b < 18446744073709551616) (x : Nat) (h : relN a b) : geN a x = geN b x := by
  rcases h with rfl | ⟨h1, h2⟩
  · rfl
  · rw [geN_nan ha x h1, geN_nan hb x h2]
def lossT (s x t : Nat) : Nat := if geN s x = true then sumT (sumT s (negN t)) x else sumT (sumT x (negN t)) s
def keptT : List Nat → Nat → Nat → Nat
  | [], s, c => sumT s c
  | x :: l, s, c => keptT l (sumT s x) (sumT c (lossT s x (sumT s x)))
theorem lossT_lt {s x t : Nat} (hs : s < 18446744073709551616) (hx : x < 18446744073709551616) (ht : t < 18446744073709551616) : lossT s x t < 18446744073709551616 := by
  unfold lossT
  split
  · exact sumT_lt (sumT_lt hs (negN_lt ht)) hx
  · exact sumT_lt (sumT_lt hx (negN_lt ht)) hs
theorem kept_rel (A : Option Addr) (c : Nat) (l : List Nat) (w : World) (hr : Kd.C Kd.float w A l.length l) (hc : l.length ≤ c) (hn : l.length < 4611686018427387904) (hw : ∀ b ∈ l, b < 18446744073709551616) (hL : Laid w) :
    Calls Tryz.prog 16 #[.slice A l.length c] w (RetRel (keptT l 0 0) w) := by
  have HL := asd hL
  have HB := asd (Below.refl w.heap.size w)
  have HW := asd hw
  have HR := asd hr
  have HN := asd hn
  obtain ⟨T, hT⟩ : ∃ T, keptT l 0 0 = T := ⟨_, rfl⟩
  rw [hT]
  have HT := asd (show keptT (l.drop 0) 0 0 = T from hT)
  clear hL hr hc hn hw hT
  go_enter Tryz.func16, Tryz.ntmps16
  go_wp2
  go_loopg [3, 4, 10] l.length (fun kq v3 v4 v10 w' => ∃ (s s' c c' i : Nat), v3 = .float .f64 s ∧ v4 = .float .f64 c ∧ v10 = .int .i64 (i : Int) ∧ Aside0 (relN s s' ∧ s < 18446744073709551616 ∧ s' < 18446744073709551616) ∧ Aside0 (relN c c' ∧ c < 18446744073709551616 ∧ c' < 18446744073709551616) ∧ Aside0 (keptT (l.drop i) s' c' = T) ∧ Aside0 (kq + i = l.length) ∧ Aside0 (Below w.heap.size w w'))
  case atStart => exact ⟨0, 0, 0, 0, 0, rfl, rfl, rfl, ⟨.inl rfl, by omega, by omega⟩, ⟨.inl rfl, by omega, by omega⟩, HT, ⟨by omega⟩, HB⟩
  case round =>
    clear HT HB
    obtain ⟨s, s', c, c', i, rfl, rfl, rfl, HS, HC, HT, HK, HB⟩ := hrel
    have hi0 : (0 : Int) ≤ (i : Int) := by omega
    cases gk with
    | zero =>
      have c1 : decide ((i : Int) < (l.length : Int)) = false := by have := HK.out; simp; omega
      have c1n : decide (i < l.length) = false := by have := HK.out; simp; omega
      have hT := HT.out
      rw [List.drop_eq_nil_of_le (by have := HK.out; omega)] at hT
      have HT2 := asd (show sumT s' c' = T from hT)
      clear hT HT
      go_wp2_with (go_at_call 39; refine (near_rel s c _ HS.out.2.1 HC.out.2.1 (HL.out.step HB.out)).mono ?_; rintro e w1 ⟨r, n1, n2, rfl, d⟩; have N1 := asd (And.intro n1 n2); have HB2 := asd (below_post d HB.out); clear n1 n2 d)
      go_ret
      exact ⟨r, by rw [← HT2.out]; exact relN_trans N1.out.1 (relN_sum HS.out.2.1 HC.out.2.1 HS.out.2.2 HC.out.2.2 HS.out.1 HC.out.1), N1.out.2, rfl, HB2.out⟩
    | succ k1 =>
      have hi : i < l.length := by have := HK.out; omega
      have p1 : 0 ≤ (i : Int) := hi0
      have q1 : (i : Int) < (l.length : Int) := by omega
      have c1 : decide ((i : Int) < (l.length : Int)) = true := by simp; omega
      have c1n : decide (i < l.length) = true := by simp; omega
      obtain ⟨ad, e159, hx⟩ := Kd.at_float HR.out (i : Int) p1 q1
      cases e159
      replace hx := (HB.out.cell (World.block_lt_of_cell? w _ hx)).trans hx
      rw [Int.toNat_natCast] at hx
      have hT := HT.out
      rw [drop_rd _ i hi] at hT
      have HX := asd (rd_lt HW.out (i : Int))
      obtain ⟨x, hx0⟩ : ∃ x, rdOf (0 : Nat) l (i : Int) = x := ⟨_, rfl⟩
      rw [hx0] at hx hT HX
      have HT2 := asd (show keptT (l.drop (i + 1)) (sumT s' x) (sumT c' (lossT s' x (sumT s' x))) = T from hT)
      have HI := asd hi
      replace p1 := eq_true p1
      replace q1 := eq_true q1
      have A1 := asd (abs_some s)
      have A2 := asd (abs_some x)
      have tok1 : True := trivial
      clear hT hx0 hi HT
      have hg := relN_ge HS.out.2.1 HS.out.2.2 x HS.out.1
      have G := asd hg
      clear hg
      rcases hq : geN s x with _ | _
      · have hge : ((FloatKind.f64.format.order (absN s) (absN x)) == some .gt || (FloatKind.f64.format.order (absN s) (absN x)) == some .eq) = false := hq
        have G2 := asd (G.out.symm.trans hq)
        clear hq
        go_wp2_with (first
          | (go_at_call 39; have _t := tok1; refine (near_rel s x _ HS.out.2.1 HX.out (HL.out.step HB.out)).mono ?_; rintro e w1 ⟨t, n1, n2, rfl, d⟩; have N1 := asd (And.intro n1 n2); have HB2 := asd (below_post d HB.out); have tok2 : True := trivial; clear n1 n2 d _t tok1)
          | (go_at_call 41; have _t := tok2; refine (math_Abs.calls s _ _ A1.out).mono ?_; rintro e w2 ⟨rfl, d⟩; have HB3 := asd (below_post d.below HB2.out); clear d _t tok2)
          | (go_at_call 41; refine (math_Abs.calls x _ _ A2.out).mono ?_; rintro e w3 ⟨rfl, d⟩; have HB4 := asd (below_post d.below HB3.out); have tok3 : True := trivial; clear d)
          | (go_at_call 39; have _t := tok3; refine (near_rel x (negN t) _ HX.out (negN_lt N1.out.2) (HL.out.step HB4.out)).mono ?_; rintro e w4 ⟨u, n1, n2, rfl, d⟩; have N2 := asd (And.intro n1 n2); have HB5 := asd (below_post d HB4.out); have tok4 : True := trivial; clear n1 n2 d _t tok3)
          | (go_at_call 39; have _t := tok4; refine (near_rel u s _ N2.out.2 HS.out.2.1 (HL.out.step HB5.out)).mono ?_; rintro e w5 ⟨v, n1, n2, rfl, d⟩; have N3 := asd (And.intro n1 n2); have HB6 := asd (below_post d HB5.out); clear n1 n2 d _t tok4)
          | (go_at_call 39; refine (near_rel c v _ HC.out.2.1 N3.out.2 (HL.out.step HB6.out)).mono ?_; rintro e w6 ⟨y, n1, n2, rfl, d⟩; have N4 := asd (And.intro n1 n2); have HB7 := asd (below_post d HB6.out); clear n1 n2 d))
        go_roundg k1
        case measure => omega
        case rel =>
          have t1 : relN t (sumT s' x) := relN_trans N1.out.1 (relN_sum HS.out.2.1 HX.out HS.out.2.2 HX.out HS.out.1 (relN_self x))
          have l1 := sumT_lt HS.out.2.2 HX.out
          have t2 : relN u (sumT x (negN (sumT s' x))) := relN_trans N2.out.1 (relN_sum HX.out (negN_lt N1.out.2) HX.out (negN_lt l1) (relN_self x) (relN_neg N1.out.2 l1 t1))
          have l2 := sumT_lt HX.out (negN_lt l1)
          have t3 : relN v (lossT s' x (sumT s' x)) := by
            unfold lossT
            rw [if_neg (by rw [G2.out]; simp)]
            exact relN_trans N3.out.1 (relN_sum N2.out.2 HS.out.2.1 l2 HS.out.2.2 t2 HS.out.1)
          have l3 := lossT_lt HS.out.2.2 HX.out l1
          exact ⟨t, sumT s' x, y, _, i + 1, rfl, rfl, by congr 1; have := HI.out; have := HN.out; exact (w64_of (by omega) (by omega)).trans (by omega), ⟨t1, N1.out.2, l1⟩, ⟨relN_trans N4.out.1 (relN_sum HC.out.2.1 N3.out.2 HC.out.2.2 l3 HC.out.1 t3), N4.out.2, sumT_lt HC.out.2.2 l3⟩, HT2, ⟨by have := HK.out; omega⟩, HB7⟩
      · have hge : ((FloatKind.f64.format.order (absN s) (absN x)) == some .gt || (FloatKind.f64.format.order (absN s) (absN x)) == some .eq) = true := hq
        have G2 := asd (G.out.symm.trans hq)
        clear hq
        go_wp2_with (first
          | (go_at_call 39; have _t := tok1; refine (near_rel s x _ HS.out.2.1 HX.out (HL.out.step HB.out)).mono ?_; rintro e w1 ⟨t, n1, n2, rfl, d⟩; have N1 := asd (And.intro n1 n2); have HB2 := asd (below_post d HB.out); have tok2 : True := trivial; clear n1 n2 d _t tok1)
          | (go_at_call 41; have _t := tok2; refine (math_Abs.calls s _ _ A1.out).mono ?_; rintro e w2 ⟨rfl, d⟩; have HB3 := asd (below_post d.below HB2.out); clear d _t tok2)
          | (go_at_call 41; refine (math_Abs.calls x _ _ A2.out).mono ?_; rintro e w3 ⟨rfl, d⟩; have HB4 := asd (below_post d.below HB3.out); have tok3 : True := trivial; clear d)
          | (go_at_call 39; have _t := tok3; refine (near_rel s (negN t) _ HS.out.2.1 (negN_lt N1.out.2) (HL.out.step HB4.out)).mono ?_; rintro e w4 ⟨u, n1, n2, rfl, d⟩; have N2 := asd (And.intro n1 n2); have HB5 := asd (below_post d HB4.out); have tok4 : True := trivial; clear n1 n2 d _t tok3)
          | (go_at_call 39; have _t := tok4; refine (near_rel u x _ N2.out.2 HX.out (HL.out.step HB5.out)).mono ?_; rintro e w5 ⟨v, n1, n2, rfl, d⟩; have N3 := asd (And.intro n1 n2); have HB6 := asd (below_post d HB5.out); clear n1 n2 d _t tok4)
          | (go_at_call 39; refine (near_rel c v _ HC.out.2.1 N3.out.2 (HL.out.step HB6.out)).mono ?_; rintro e w6 ⟨y, n1, n2, rfl, d⟩; have N4 := asd (And.intro n1 n2); have HB7 := asd (below_post d HB6.out); clear n1 n2 d))
        go_roundg k1
        case measure => omega
        case rel =>
          have t1 : relN t (sumT s' x) := relN_trans N1.out.1 (relN_sum HS.out.2.1 HX.out HS.out.2.2 HX.out HS.out.1 (relN_self x))
          have l1 := sumT_lt HS.out.2.2 HX.out
          have t2 : relN u (sumT s' (negN (sumT s' x))) := relN_trans N2.out.1 (relN_sum HS.out.2.1 (negN_lt N1.out.2) HS.out.2.2 (negN_lt l1) HS.out.1 (relN_neg N1.out.2 l1 t1))
          have l2 := sumT_lt HS.out.2.2 (negN_lt l1)
          have t3 : relN v (lossT s' x (sumT s' x)) := by
            unfold lossT
            rw [if_pos G2.out]
            exact relN_trans N3.out.1 (relN_sum N2.out.2 HX.out l2 HX.out t2 (relN_self x))
          have l3 := lossT_lt HS.out.2.2 HX.out l1
          exact ⟨t, sumT s' x, y, _, i + 1, rfl, rfl, by congr 1; have := HI.out; have := HN.out; exact (w64_of (by omega) (by omega)).trans (by omega), ⟨t1, N1.out.2, l1⟩, ⟨relN_trans N4.out.1 (relN_sum HC.out.2.1 N3.out.2 HC.out.2.2 l3 HC.out.1 t3), N4.out.2, sumT_lt HC.out.2.2 l3⟩, HT2, ⟨by have := HK.out; omega⟩, HB7⟩
end Go.Proofs.YthmeocigliephaaGreatDoor.Big
end
section
namespace Go.Proofs.YthmeocigliephaaGreatDoor.Big
open Go.Proofs.YthmeocigliephaaGreatDoor.PSu Go.Proofs.YthmeocigliephaaGreatDoor.Plain Ieee
theorem sumT_fin {a b : Nat} (ha : a < 18446744073709551616) (hb : b < 18446744073709551616) (h : Fin64 (sumT a b)) : Fin64 a ∧ Fin64 b ∧ sumT a b = sumV a b := by
  obtain ⟨h1, h2⟩ := kind_fin h
  unfold sumT at h1 h2 ⊢
  by_cases ho : opp a b
  · rw [if_pos ho] at h1; exact absurd h1 (by decide +kernel)
  · rw [if_neg ho] at h1 h2 ⊢
    unfold sumV at h1 h2
    by_cases hn : nanB a = true ∨ nanB b = true
    · rw [if_pos hn] at h1; exact absurd h1 (by decide +kernel)
    · have n1 : nanB a = false := by cases h : nanB a; rfl; exact absurd (.inl h) hn
      have n2 : nanB b = false := by cases h : nanB b; rfl; exact absurd (.inr h) hn
      rw [if_neg hn] at h2
      by_cases ia : infB? a = true
      · rw [if_pos ia, ia] at h2; cases h2
      · rw [if_neg ia] at h2
        by_cases ib : infB? b = true
        · rw [if_pos ib, ib] at h2; cases h2
        · exact ⟨fin_kind ha n1 (by simpa using ia), fin_kind hb n2 (by simpa using ib), rfl⟩
def lostT (a b : Nat) : Nat := if Fin64 (sumT a b) then rndZ (flz a + flz b - flz (sumT a b)) 2 else 0
theorem lostT_lt (a b : Nat) : lostT a b < 18446744073709551616 := by
  unfold lostT
  split
  · exact rnd_lt _ _
  · omega
theorem isinf_some (b : Nat) : math_IsInf.f b 0 = some (infB? b) := inf_some b
theorem two_rest {a b r : Nat} (ha : a < 18446744073709551616) (hb : b < 18446744073709551616) (h : relN r (sumT a b)) (hr : r < 18446744073709551616) :
    (if ((FloatKind.f64.format.order r r) != some .eq) = true then (sums_Two.j0 4 a b r true) else ((math_IsInf.f r 0).bind fun t231 => (sums_Two.j0 4 a b r t231))) = some (r, lostT a b) := by
  unfold lostT
  by_cases hf : Fin64 (sumT a b)
  · obtain ⟨fa, fb, hs⟩ := sumT_fin ha hb hf
    obtain rfl := relN_eq h (kind_fin hf).1
    rw [if_pos hf]
    have h1 := sum_bl fa fb
    have h2 : bl (flz (sumT a b)).natAbs ≤ 2098 := bl_le.2 (flz_lt hf)
    have ht := total_law [a, b] (fun x hx => by simp at hx; rcases hx with rfl | rfl <;> assumption) (by simp)
    have hz : sumZ [a, b] = flz a + flz b := by simp [sumZ]
    have hd : bl (flz a + flz b - flz (sumT a b)).natAbs ≤ 60000 := by
      have h3 := Int.natAbs_sub_le (flz a + flz b) (flz (sumT a b))
      have h4 := bl_add (k := 2100) h1 (by omega : bl (flz (sumT a b)).natAbs ≤ 2100)
      have := bl_le.2 (Nat.lt_of_le_of_lt h3 (bl_le.1 h4))
      omega
    rw [if_neg (by rw [nan_fin hf]; simp), isinf_some, (kind_fin hf).2, Option.bind_some, sums_Two.j0, if_neg (by simp), show (3 : Nat) = [a, b].length + 1 from rfl, ht, Option.bind_some, num_law hf, Option.bind_some, hz]
    rw [show [a, b].length + 1 = 0 + 3 from rfl, dsub_law 0 (by omega) (by omega), Option.bind_some]
    simp only
    rw [round_can hd (by omega)]
    rfl
  · rw [if_neg hf]
    by_cases hn : nanB r = true
    · refine (if_pos hn).trans ?_
      rw [sums_Two.j0, if_pos rfl]
    · refine (if_neg hn).trans ?_
      have he : r = sumT a b := by
        rcases h with h | ⟨h, _⟩
        · exact h
        · exact absurd h hn
      have hi : infB? r = true := by
        cases h : infB? r
        · exact absurd (he ▸ fin_kind hr (by simpa using hn) h) hf
        · rfl
      rw [isinf_some, hi, Option.bind_some, sums_Two.j0, if_pos rfl]
theorem two_rel (a0 a1 : Nat) (w : World) (ha : a0 < 18446744073709551616) (hb : a1 < 18446744073709551616) (hL : Laid w) :
    Calls Tryz.prog 20 #[.float .f64 a0, .float .f64 a1] w fun e w' => ∃ r, relN r (sumT a0 a1) ∧ r < 18446744073709551616 ∧ e = .returned (.tuple #[.float .f64 r, .float .f64 (lostT a0 a1)]) ∧ Below w.heap.size w w' := by
  have HL := asd hL
  obtain ⟨k, hk⟩ : ∃ k : Nat, k = 4 := ⟨_, rfl⟩
  have HC4 := asd (fun r h1 h2 => two_rest (r := r) ha hb h1 h2)
  rw [← hk] at HC4
  obtain ⟨L, hLL⟩ : ∃ L, lostT a0 a1 = L := ⟨_, rfl⟩
  rw [hLL] at HC4 ⊢
  have HA := asd ha
  have HA1 := asd hb
  clear hL hk hLL ha hb
  have hu60 := Tryz.underlying60
  have HB := asd (Below.refl w.heap.size w)
  go_enter Tryz.func20, Tryz.ntmps20
  go_upto_region 2 with (first | ((with_reducible refine gate_callee (f := 39) rfl ?_); refine goesL_ (some 13) rfl rfl Tryz.func39 (by kernel_rfl) rfl #[.float .f64 a0, .float .f64 a1] rfl eqA ?_; refine (near_rel a0 a1 _ HA.out HA1.out HL.out).mono ?_; rintro e w5 ⟨t230, n1, n2, rfl, hb⟩; refine ⟨_, rfl, ?_⟩; have N1 := asd (And.intro n1 n2); have HC5 := asd (HC4.out t230 n1 n2); clear n1 n2; have n0_ := asd (below_step hbw hb); clear HB; have HB := n0_; clear n0_; (try clear hb); (try clear hb2); (try clear hk); (try clear hi)))
  (try simp only [Act.put, List.setIfInBounds_toArray, List.set_cons_zero, List.set_cons_succ])
  go_cut [20] (fun v20 wc => ∃ (kq : Nat) (x20_3 : Bool), v20 = .bool x20_3 ∧ Aside0 (sums_Two.j0 kq a0 a1 t230 x20_3 = some (t230, L)) ∧ Aside0 (kq ≤ k) ∧ Aside0 (Below w.heap.size w wc))
  case first =>
    have H := HC5.out
    clear HC4 HC5
    by_cases c6 : ((FloatKind.f64.format.order t230 t230) != some .eq) = true
    · rw [if_pos c6] at H
      have c6b0 : ((FloatKind.f64.format.order t230 t230) != some .eq) = true := c6
      (try (have c6b1 : decide ((FloatKind.f64.format.order t230 t230) = some .eq) = false := by simpa using c6))
      (try (have c6b2 : ((FloatKind.f64.format.order t230 t230) == some .eq) = false := by simpa using c6))
      (try (have c6b3 : ¬ ((FloatKind.f64.format.order t230 t230) = some .eq) := by simpa using c6))
      clear c6
      (first | rw [c6b0] | (simp only [i64_w, i32_w]; rw [c6b0]) | skip)
      have H' := asd H
      clear H
      go_wp2
      go_meet
      case rel => exact ⟨_, (true), eqB, H', ⟨by first | omega | exact Nat.le_refl _⟩, ⟨hbw⟩⟩
    · rw [if_neg c6] at H
      have c6b0 : ((FloatKind.f64.format.order t230 t230) != some .eq) = false := by simpa using c6
      (try (have c6b1 : decide ((FloatKind.f64.format.order t230 t230) = some .eq) = true := by simpa using c6))
      (try (have c6b2 : ((FloatKind.f64.format.order t230 t230) == some .eq) = true := by simpa using c6))
      clear c6
      (first | rw [c6b0] | (simp only [i64_w, i32_w]; rw [c6b0]) | skip)
      replace H := Option.bind_eq_some_iff.mp H
      obtain ⟨t231, A70, H⟩ := H
      replace H : (sums_Two.j0 k a0 a1 t230 t231) = some (t230, L) := H
      have A7 := asd A70
      clear A70
      have H' := asd H
      clear H
      go_wp2_with (first | (go_at_call 43; (with_reducible refine (math_IsInf.calls t230 0 t231 _ A7.out).mono ?_); rintro e w' ⟨rfl, ⟨nd, rfl⟩⟩))
      go_meet
      case rel => exact ⟨_, (t231), eqB, H', ⟨by first | omega | exact Nat.le_refl _⟩, ⟨hbw⟩⟩
  case rest =>
    clear HC4 HC5 HA HA1
    try clear c2
    try clear p2
    try clear c3
    try clear c6
    try clear c6b0
    try clear c6b1
    try clear c6b2
    obtain ⟨kq, x20_3, rfl, HA, HJ3, HB⟩ := hcut
    cases kq with
    | zero => exact absurd HA.out (by simp [sums_Two.j0])
    | succ kj3 =>
      have H := HA.out
      clear HA
      simp only [sums_Two.j0] at H
      by_cases c8 : x20_3 = true
      · subst c8
        have H1 : (some (t230, (0 : Nat))) = some (t230, L) := by rw [if_pos rfl] at H; exact H
        clear H
        have H := H1
        clear H1
        simp only [Option.some.injEq, Prod.mk.injEq, true_and] at H
        subst H
        go_wp2
        go_ret2
        exact ⟨_, N1.out.1, N1.out.2, eqC, hbw⟩
      · replace c8 := Bool.eq_false_iff.mpr c8
        subst c8
        have H1 : ((sums_total.f kj3 (([a0, a1] : List Nat))).bind fun bt235 => ((sums_num.f t230).bind fun bt240 => ((dyad_Sub.f kj3 bt235.1 bt235.2.1 bt235.2.2 bt240.1 bt240.2.1 bt240.2.2).bind fun bt245 => ((dyad_Round.f bt245.1 bt245.2.1 bt245.2.2.1 2).bind fun bt252 => (some (t230, bt252.1)))))) = some (t230, L) := by rw [if_neg (show ¬ (false = true) by decide)] at H; exact H
        clear H
        have H := H1
        clear H1
        obtain ⟨y232, hy232⟩ : ∃ y_ : List Nat, y_ = (([a0, a1] : List Nat)) := ⟨_, rfl⟩
        replace H : ((sums_total.f kj3 y232).bind fun bt235 => ((sums_num.f t230).bind fun bt240 => ((dyad_Sub.f kj3 bt235.1 bt235.2.1 bt235.2.2 bt240.1 bt240.2.1 bt240.2.2).bind fun bt245 => ((dyad_Round.f bt245.1 bt245.2.1 bt245.2.2.1 2).bind fun bt252 => (some (t230, bt252.1)))))) = some (t230, L) := by first | (rw [hy232]; with_reducible exact H) | (have H2_ := (Option.bind_some _ _).symm.trans H; rw [hy232]; with_reducible exact H2_) | (have H2_ := (Option.bind_some _ _).symm.trans H; with_reducible exact H2_) | with_reducible exact H | (rw [hy232]; exact H) | exact H
        have Ny232 := asd hy232
        clear hy232
        replace H := Option.bind_eq_some_iff.mp H
        obtain ⟨⟨t235, t236, t239⟩, A90, H⟩ := H
        replace H : ((sums_num.f t230).bind fun bt240 => ((dyad_Sub.f kj3 t235 t236 t239 bt240.1 bt240.2.1 bt240.2.2).bind fun bt245 => ((dyad_Round.f bt245.1 bt245.2.1 bt245.2.2.1 2).bind fun bt252 => (some (t230, bt252.1))))) = some (t230, L) := H
        have A9 := asd A90
        clear A90
        replace H := Option.bind_eq_some_iff.mp H
        obtain ⟨⟨t240, t241, t244⟩, A100, H⟩ := H
        replace H : ((dyad_Sub.f kj3 t235 t236 t239 t240 t241 t244).bind fun bt245 => ((dyad_Round.f bt245.1 bt245.2.1 bt245.2.2.1 2).bind fun bt252 => (some (t230, bt252.1)))) = some (t230, L) := H
        have A10 := asd A100
        clear A100
        replace H := Option.bind_eq_some_iff.mp H
        obtain ⟨⟨t245, t246, t249, t250⟩, A110, H⟩ := H
        replace H : ((dyad_Round.f t245 t246 t249 2).bind fun bt252 => (some (t230, bt252.1))) = some (t230, L) := H
        have A11 := asd A110
        clear A110
        replace H := Option.bind_eq_some_iff.mp H
        obtain ⟨⟨t252, t253⟩, A120, H⟩ := H
        replace H : (some (t230, t252)) = some (t230, L) := H
        have A12 := asd A120
        clear A120
        simp only [Option.some.injEq, Prod.mk.injEq, true_and] at H
        subst H
        go_wp2_with (first | ((with_reducible refine gate_dst (N := 25) rfl ?_); refine Kd.R_lit Kd.float _ 25 ?hg (N := 25) ?hd (xs := ([a0, a1] : List Nat)) (inner := [.float .f64 a0, .float .f64 a1]) (ok := fun _ => True) (okp := fun _ => True) ?hr ?hp (fun _ hk => hk) trivial (Below.refl _ _) (Nat.le_refl _) (by simp) ?_; (case hd => rfl); (case hg => rfl); (case hr => first | (go_simp; done) | (go_simp; rfl)); (case hp => exact (Reps.one (show Kd.M Kd.float _ _ _ a0 [.float .f64 a0] from rfl) (Reps.one (show Kd.M Kd.float _ _ _ a1 [.float .f64 a1] from rfl) (Reps.none _ _)))); intro v233 w13 ho14 hb hg_ hnew_; clear hg_ hnew_; (first | rw [← Ny232.out] at ho14 | (simp only [Int.reduceToNat] at ho14; rw [← Ny232.out] at ho14)); have n0_ := asd (Kd.R_lower ho14 (below_size hbw)); have n1_ := asd (below_step hbw hb); clear HB; have HO234 := n0_; have HB := n1_; clear n0_ n1_; clear hb ho14; obtain ⟨Ao15, co15, eo15⟩ := Kd.R_slice HO234.out; subst eo15) | ((with_reducible refine gate_callee (f := 45) rfl ?_); refine goesL_ (some 26) rfl rfl Tryz.func45 (by kernel_rfl) rfl #[.slice Ao15 y232.length co15] rfl eqA ?_; (with_reducible refine (sums_total.calls kj3 _ _ y232 t235 t236 t239 _ ?side1 ?side2 A9.out).mono ?_); (case side1 => repeat (first | exact (Kd.R_reads' HO234.out).2.2 | (with_reducible refine Kd.C_alloc ?_ _) | (with_reducible refine Kd.C_drewN ?_ _) | (with_reducible refine Kd.C_drew ?_))); (case side2 => exact (Kd.R_reads' HO234.out).2.1); rintro e w16 ⟨v237, rfl, ho0, hb⟩; refine ⟨_, rfl, ?_⟩; have n0_ := asd (Kd.R_below (rUp HO234.out) hb); have n1_ := asd (Kd.R_lower ho0 (below_size hbw)); have n2_ := asd (below_step hbw hb); clear HO234; clear HB; have HO234 := n0_; have HO238 := n1_; have HB := n2_; clear n0_ n1_ n2_; (try clear hb); (try clear hb2); (try clear hk); (try clear hi); (try clear ho0)) | ((with_reducible refine gate_callee (f := 46) rfl ?_); refine goesL_ (some 28) rfl rfl Tryz.func46 (by kernel_rfl) rfl #[.float .f64 t230] rfl eqA ?_; (with_reducible refine (sums_num.calls t230 t240 t241 t244 _ A10.out).mono ?_); rintro e w17 ⟨v242, rfl, ho0, hb⟩; refine ⟨_, rfl, ?_⟩; have n0_ := asd (Kd.R_below (rUp HO234.out) hb); have n1_ := asd (Kd.R_elder' (rUp HO238.out) (Kd.R_base ho0) hb); have n2_ := asd (Kd.R_lower (Kd.R_new' ho0 (Kd.R_lt (rUp HO238.out))) (below_size hbw)); have n3_ := asd (below_step hbw hb); clear HO234; clear HO238; clear HB; have HO234 := n0_; have HO238 := n1_; have HO243 := n2_; have HB := n3_; clear n0_ n1_ n2_ n3_; (try clear hb); (try clear hb2); (try clear hk); (try clear hi); (try clear ho0); obtain ⟨Ao18, co18, eo18⟩ := Kd.R_slice HO238.out; subst eo18; obtain ⟨Ao19, co19, eo19⟩ := Kd.R_slice HO243.out; subst eo19) | ((with_reducible refine gate_callee (f := 44) rfl ?_); refine goesL_ (some 29) rfl rfl Tryz.func44 (by kernel_rfl) rfl #[.agg #[.bool t235, .slice Ao18 t236.length co18, .int .i64 t239], .agg #[.bool t240, .slice Ao19 t241.length co19, .int .i64 t244]] rfl eqA ?_; (with_reducible refine (dyad_Sub.calls kj3 t235 (fun k_ => some k_ = (.slice Ao18 t236.length co18 : Value).ownBlock) _ _ t236 t239 t240 (fun k_ => some k_ = (.slice Ao19 t241.length co19 : Value).ownBlock) _ _ t241 t244 t245 t246 t249 t250 _ ?side1 ?side2 A11.out).mono ?_); (case side1 => exact Kd.R_V (Kd.R_tight rfl (Kd.R_apart' (HO238.out) (Kd.R_typed HO234.out) (by decide)))); (case side2 => exact Kd.R_V (Kd.R_tight rfl (Kd.R_apart' (HO243.out) (Kd.R_typed HO234.out) (by decide)))); rintro e w20 ⟨v247, rfl, ho0, hb⟩; refine ⟨_, rfl, ?_⟩; have n0_ := asd (Kd.R_below (rUp HO234.out) hb); have n1_ := asd (Kd.R_elder' (rUp HO238.out) (Kd.R_base ho0) hb); have n2_ := asd (Kd.R_elder' (rUp HO243.out) (Kd.R_base ho0) hb); have n3_ := asd (Kd.R_lower (Kd.R_new' (Kd.R_new' (Kd.R_mono (ok' := fun k_ => True) ho0 (fun _ hk_ => trivial)) (Kd.R_lt (rUp HO238.out))) (Kd.R_lt (rUp HO243.out))) (below_size hbw)); have n4_ := asd (below_step hbw hb); clear HO234; clear HO238; clear HO243; clear HB; have HO234 := n0_; have HO238 := n1_; have HO243 := n2_; have HO248 := n3_; have HB := n4_; clear n0_ n1_ n2_ n3_ n4_; (try clear hb); (try clear hb2); (try clear hk); (try clear hi); (try clear ho0)) | ((with_reducible refine gate_dst (N := 7) rfl ?_); refine box_event ?hg (N := 7) ?hd (cs := #[.bool false, .slice none 0 0, .int .i64 0]) (t := 60) ?hr ?_; (case hd => rfl); (case hg => rfl); (case hr => first | (go_simp; done) | (go_simp; rfl)); intro gb251 hg w21 hbox hb; have n0_ := asd (Kd.R_below (rUp HO234.out) hb); have n1_ := asd (Kd.R_below (rUp HO238.out) hb); have n2_ := asd (Kd.R_below (rUp HO243.out) hb); have n3_ := asd (Kd.R_below (rUp HO248.out) hb); have n4_ := asd (below_step hbw hb); have n5_ := asd (hbox); have n6_ := asd ((by rw [hg]; exact (below_size hbw) : w.heap.size ≤ gb251)); have n7_ := asd ((by rw [hg]; exact (below_size hbw) : w.heap.size ≤ gb251)); clear HO234; clear HO238; clear HO243; clear HO248; clear HB; have HO234 := n0_; have HO238 := n1_; have HO243 := n2_; have HO248 := n3_; have HB := n4_; have BK251 := n5_; have GW251 := n6_; have GE251 := n7_; clear n0_ n1_ n2_ n3_ n4_ n5_ n6_ n7_; clear hb hbox hg; have hcz22_0 : w21.cell? ⟨gb251, 0, none⟩ = some (.bool false) := (blk_cell BK251.out 0).trans rfl; have hcz22_1 : w21.cell? ⟨gb251, 1, none⟩ = some (.slice none 0 0) := (blk_cell BK251.out 1).trans rfl; have hcz22_2 : w21.cell? ⟨gb251, 2, none⟩ = some (.int .i64 0) := (blk_cell BK251.out 2).trans rfl; have hfz22_0 := blk_frozen BK251.out 0; have hfz22_1 := blk_frozen BK251.out 1; have hfz22_2 := blk_frozen BK251.out 2; obtain ⟨Ao23, co23, eo23⟩ := Kd.R_slice HO248.out; subst eo23) | ((with_reducible refine gate_callee (f := 47) rfl ?_); refine goesL_ (some 34) rfl rfl Tryz.func47 (by kernel_rfl) rfl #[.agg #[.bool t245, .slice Ao23 t246.length co23, .int .i64 t249], .int .i64 2] rfl eqA ?_; (with_reducible refine (dyad_Round.calls t245 _ _ t246 t249 2 t252 t253 _ ?side1 ?side2 A12.out).mono ?_); (case side1 => refine (Kd.R_reads' (e := 83) (base := w.heap.size) (ok := fun k_ => ((True ∧ some k_ ≠ (.slice Ao18 t236.length co18 : Value).ownBlock) ∧ some k_ ≠ (.slice Ao19 t241.length co19 : Value).ownBlock)) (n := t246.length) (c := co23) ?_).2.2; exact (by (with_reducible repeat (first | apply Kd.R_alloc | apply Kd.R_drewN | apply Kd.R_drew)); exact (Kd.R_mono (Kd.R_far (p := ⟨gb251, 2, none⟩) (Kd.R_far (p := ⟨gb251, 1, none⟩) (Kd.R_far (p := ⟨gb251, 0, none⟩) (Kd.R_types HO248.out BK251.out (by decide)) (fun _ hk => hk.2) (.bool t245)) (fun _ hk => hk.2) (.slice Ao23 t246.length co23)) (fun _ hk => hk.2) (.int .i64 t249)) (fun _ h_ => h_.1)))); (case side2 => exact (Kd.R_reads' HO248.out).2.1); rintro e w24 ⟨rfl, hb⟩; refine ⟨_, rfl, ?_⟩; have n0_ := asd (Kd.R_below (by (with_reducible repeat (first | apply Kd.R_alloc | apply Kd.R_drewN | apply Kd.R_drew)); exact (Kd.R_mono (Kd.R_far (p := ⟨gb251, 2, none⟩) (Kd.R_far (p := ⟨gb251, 1, none⟩) (Kd.R_far (p := ⟨gb251, 0, none⟩) (Kd.R_types HO234.out BK251.out (by decide)) (fun _ hk => hk.2) (.bool t245)) (fun _ hk => hk.2) (.slice Ao23 t246.length co23)) (fun _ hk => hk.2) (.int .i64 t249)) (fun _ h_ => h_.1))) hb); have n1_ := asd (Kd.R_below (by (with_reducible repeat (first | apply Kd.R_alloc | apply Kd.R_drewN | apply Kd.R_drew)); exact (Kd.R_mono (Kd.R_far (p := ⟨gb251, 2, none⟩) (Kd.R_far (p := ⟨gb251, 1, none⟩) (Kd.R_far (p := ⟨gb251, 0, none⟩) (Kd.R_types HO238.out BK251.out (by decide)) (fun _ hk => hk.2) (.bool t245)) (fun _ hk => hk.2) (.slice Ao23 t246.length co23)) (fun _ hk => hk.2) (.int .i64 t249)) (fun _ h_ => h_.1))) hb); have n2_ := asd (Kd.R_below (by (with_reducible repeat (first | apply Kd.R_alloc | apply Kd.R_drewN | apply Kd.R_drew)); exact (Kd.R_mono (Kd.R_far (p := ⟨gb251, 2, none⟩) (Kd.R_far (p := ⟨gb251, 1, none⟩) (Kd.R_far (p := ⟨gb251, 0, none⟩) (Kd.R_types HO243.out BK251.out (by decide)) (fun _ hk => hk.2) (.bool t245)) (fun _ hk => hk.2) (.slice Ao23 t246.length co23)) (fun _ hk => hk.2) (.int .i64 t249)) (fun _ h_ => h_.1))) hb); have n3_ := asd (Kd.R_below (by (with_reducible repeat (first | apply Kd.R_alloc | apply Kd.R_drewN | apply Kd.R_drew)); exact (Kd.R_mono (Kd.R_far (p := ⟨gb251, 2, none⟩) (Kd.R_far (p := ⟨gb251, 1, none⟩) (Kd.R_far (p := ⟨gb251, 0, none⟩) (Kd.R_types HO248.out BK251.out (by decide)) (fun _ hk => hk.2) (.bool t245)) (fun _ hk => hk.2) (.slice Ao23 t246.length co23)) (fun _ hk => hk.2) (.int .i64 t249)) (fun _ h_ => h_.1))) hb); have n4_ := asd (blk_below (g := gb251) (o := .cells #[.bool t245, .slice Ao23 t246.length co23, .int .i64 t249] 60 (0, 0)) (by (with_reducible repeat (first | refine blk_drewN ?_ _ | refine blk_drew ?_ | refine blk_alloc ?_ _)); refine blk_put (cs := #[.bool t245, .slice Ao23 t246.length co23, .int .i64 0]) ?_ 2 _ rfl; (with_reducible repeat (first | refine blk_drewN ?_ _ | refine blk_drew ?_ | refine blk_alloc ?_ _)); refine blk_put (cs := #[.bool t245, .slice none 0 0, .int .i64 0]) ?_ 1 _ rfl; (with_reducible repeat (first | refine blk_drewN ?_ _ | refine blk_drew ?_ | refine blk_alloc ?_ _)); refine blk_put (cs := #[.bool false, .slice none 0 0, .int .i64 0]) ?_ 0 _ rfl; (with_reducible repeat (first | refine blk_drewN ?_ _ | refine blk_drew ?_ | refine blk_alloc ?_ _)); exact BK251.out) hb); have n5_ := asd (below_step (by repeat (first | (with_reducible first | exact HB.out | apply below_alloc | apply pw_below_drewN | apply below_drew1 | refine below_set ?_ GE251.out) | exact HB.out)) hb); clear HO234; clear HO238; clear HO243; clear HO248; clear BK251; clear HB; have HO234 := n0_; have HO238 := n1_; have HO243 := n2_; have HO248 := n3_; have BK251 := n4_; have HB := n5_; clear n0_ n1_ n2_ n3_ n4_ n5_; (try clear hb); (try clear hb2); (try clear hk); (try clear hi)))
        go_ret2
        exact ⟨_, N1.out.1, N1.out.2, eqC, by repeat (first | (with_reducible first | exact HB.out | apply below_alloc | apply pw_below_drewN | apply below_drew1 | refine below_set ?_ GE251.out) | exact HB.out)⟩
end Go.Proofs.YthmeocigliephaaGreatDoor.Big
end
section
namespace Go.Proofs.YthmeocigliephaaGreatDoor.Big
open Go.Proofs.YthmeocigliephaaGreatDoor.PSu Go.Proofs.YthmeocigliephaaGreatDoor.Plain Ieee
def magN (f : Nat) : Nat := manti f * 2 ^ (expoV f + 1074).toNat
theorem h53 : (2 : Nat) ^ 53 = 9007199254740992 := by decide
theorem h52 : (2 : Nat) ^ 52 = 4503599627370496 := by decide
theorem bits_val {m K : Nat} (h1 : m < 9007199254740992) (h2 : 4503599627370496 ≤ m ∨ K = 0) (hf : K * 4503599627370496 + m < 9218868437227405312) : magN (K * 4503599627370496 + m) = m * 2 ^ K := by
  obtain ⟨f, hff⟩ : ∃ f, K * 4503599627370496 + m = f := ⟨_, rfl⟩
  rw [hff] at hf ⊢
  by_cases hm : 4503599627370496 ≤ m
  · have e1 : expo f = K + 1 := by unfold expo; omega
    have e2 : frac f = m - 4503599627370496 := by unfold frac; omega
    have e3 : manti f = m := by unfold manti; rw [e1, if_neg (by omega), e2]; omega
    have e4 : (expoV f + 1074).toNat = K := by unfold expoV; rw [e1, if_neg (by omega)]; omega
    unfold magN
    rw [e3, e4]
  · have hK := h2.resolve_left hm
    subst hK
    have e1 : expo f = 0 := by unfold expo; omega
    have e2 : frac f = m := by unfold frac; omega
    have e3 : manti f = m := by unfold manti; rw [e1, if_pos rfl, e2]
    have e4 : (expoV f + 1074).toNat = 0 := by unfold expoV; rw [e1, if_pos rfl]; rfl
    unfold magN
    rw [e3, e4]
theorem tail_val {q k : Nat} (h1 : q ≤ 9007199254740992) (h2 : 4503599627370496 ≤ q ∨ k = 0) (hq : q ≠ 0) :
    (tailV q ((k : Int) - 1074) < infB → magN (tailV q ((k : Int) - 1074)) = q * 2 ^ k) ∧ (bl (q * 2 ^ k) ≤ 2098 → tailV q ((k : Int) - 1074) < infB) := by
  have hbq := bl_mul_pow hq k
  unfold tailV
  by_cases hb : 53 < bl q
  · have hm : q = 9007199254740992 := by
      have : ¬ q < 2 ^ 53 := fun h => by have := bl_le.2 h; omega
      rw [h53] at this; omega
    subst hm
    have hb1 : bl 9007199254740992 = 54 := by decide
    have hb2 : bl (9007199254740992 / 2) = 53 := by decide
    rw [if_pos hb, hb2]
    by_cases ho : 1024 < ((53 : Nat) : Int) + ((k : Int) - 1074 + 1)
    · rw [if_pos ho]
      exact ⟨fun h => absurd h (by omega), fun h => by omega⟩
    · rw [if_neg ho]
      have hbo : bitsOf (9007199254740992 / 2) ((k : Int) - 1074 + 1) = (k + 1) * 4503599627370496 + 4503599627370496 := by unfold bitsOf; omega
      rw [hbo]
      have hlt : (k + 1) * 4503599627370496 + 4503599627370496 < infB := by unfold infB; omega
      refine ⟨fun _ => ?_, fun _ => hlt⟩
      rw [bits_val (by omega) (.inl (by omega)) hlt, Nat.pow_succ]; omega
  · have hm : q < 9007199254740992 := by have := bl_le.1 (show bl q ≤ 53 by omega); rw [h53] at this; exact this
    rw [if_neg hb]
    by_cases ho : 1024 < (bl q : Int) + ((k : Int) - 1074)
    · rw [if_pos ho]
      refine ⟨fun h => absurd h (by omega), fun h => ?_⟩
      rw [hbq] at h; omega
    · rw [if_neg ho]
      have hbo : bitsOf q ((k : Int) - 1074) = k * 4503599627370496 + q := by unfold bitsOf; omega
      rw [hbo]
      have hlt : k * 4503599627370496 + q < infB := by
        unfold infB
        rcases h2 with h | h
        · have : bl q = 53 := bl_unique (k := 52) (by rw [h52]; exact h) (by rw [h53]; exact hm)
          omega
        · subst h; omega
      exact ⟨fun _ => bits_val hm h2 hlt, fun _ => hlt⟩
def qN (n : Nat) : Nat := n / 2 ^ (bl n - 53) + if incV n (bl n - 53) false true = true then 1 else 0
theorem magV_val (n : Nat) (hn : n ≠ 0) :
    (magV n (-1074) false true < infB → magN (magV n (-1074) false true) = qN n * 2 ^ (bl n - 53)) ∧ (bl n ≤ 2098 → bl (qN n * 2 ^ (bl n - 53)) ≤ 2098 → magV n (-1074) false true < infB) := by
  obtain ⟨k, hk⟩ : ∃ k, bl n - 53 = k := ⟨_, rfl⟩
  have hP : 0 < 2 ^ k := Nat.pow_pos (by omega)
  have hb0 : bl n ≠ 0 := by rw [bl_pos hn]; omega
  have hlt : n < 2 ^ bl n := bl_le.1 (Nat.le_refl _)
  have hq : qN n ≤ 9007199254740992 ∧ (4503599627370496 ≤ qN n ∨ k = 0) ∧ qN n ≠ 0 := by
    unfold qN
    rw [hk]
    by_cases hk0 : k = 0
    · subst hk0
      have hi : incV n 0 false true = false := by unfold incV; simp [Nat.mod_one]
      have h5 : n < 2 ^ 53 := bl_le.1 (by omega)
      rw [h53] at h5
      rw [hi, Nat.pow_zero, Nat.div_one, if_neg (by simp)]
      exact ⟨by omega, .inr rfl, by omega⟩
    · have hbl : bl n = 53 + k := by omega
      have h1 : n / 2 ^ k < 2 ^ 53 := by
        rw [Nat.div_lt_iff_lt_mul hP, ← Nat.pow_add, ← hbl]; exact hlt
      have h2 : 2 ^ 52 ≤ n / 2 ^ k := by
        rw [Nat.le_div_iff_mul_le hP, ← Nat.pow_add]
        refine Nat.le_of_not_lt fun h => ?_
        have := bl_le.2 h
        omega
      rw [h53] at h1
      rw [h52] at h2
      refine ⟨by split <;> omega, .inl (by omega), by omega⟩
  have ht := tail_val hq.1 hq.2.1 hq.2.2
  have he : magV n (-1074) false true = if 1024 < (bl n : Int) + -1074 then infB else tailV (qN n) ((k : Int) - 1074) := by
    unfold magV
    by_cases h1 : 1024 < (bl n : Int) + -1074
    · rw [if_pos h1, if_pos h1, if_pos (by rfl)]
    · rw [if_neg h1, if_neg h1, if_neg (by omega)]
      have hl : lastV ((bl n : Int) + -1074) = (k : Int) - 1074 := by unfold lastV; split <;> omega
      rw [hl]
      by_cases hk0 : k = 0
      · have hqn : qN n = n := by
          unfold qN
          rw [hk, hk0]
          have hi : incV n 0 false true = false := by unfold incV; simp [Nat.mod_one]
          rw [hi, Nat.pow_zero, Nat.div_one, if_neg (by simp)]; rfl
        rw [if_pos (by omega), hqn, show ((-1074 : Int) - ((k : Int) - 1074)).toNat = 0 by omega, Nat.pow_zero, Nat.mul_one]
      · rw [if_neg (by omega), show ((k : Int) - 1074 - -1074).toNat = k by omega]
        unfold qN
        rw [hk]
  rw [he, hk]
  by_cases h1 : 1024 < (bl n : Int) + -1074
  · rw [if_pos h1]
    exact ⟨fun h => absurd h (by omega), fun h _ => by omega⟩
  · rw [if_neg h1]
    exact ⟨ht.1, fun _ h => ht.2 h⟩
theorem nearest (n k : Nat) (hk : 1 ≤ k) (t : Int) : ((n : Int) - ((n / 2 ^ k + if incV n k false true = true then 1 else 0 : Nat) : Int) * ((2 ^ k : Nat) : Int)).natAbs ≤ ((n : Int) - t * ((2 ^ k : Nat) : Int)).natAbs := by
  have hD : 2 ^ k = 2 * 2 ^ (k - 1) := by
    obtain ⟨j, rfl⟩ : ∃ j, k = j + 1 := ⟨k - 1, by omega⟩
    rw [Nat.pow_succ, Nat.add_sub_cancel]; omega
  have hm := Nat.div_add_mod n (2 ^ k)
  have hr := Nat.mod_lt n (show 2 ^ k > 0 from Nat.pow_pos (by omega))
  have hinc : (incV n k false true = true → 2 ^ (k - 1) ≤ n % 2 ^ k) ∧ (¬ incV n k false true = true → n % 2 ^ k ≤ 2 ^ (k - 1)) := by
    unfold incV
    by_cases h1 : 2 ^ (k - 1) < n % 2 ^ k
    · simp [h1]; omega
    · by_cases h2 : n % 2 ^ k = 2 ^ (k - 1)
      · simp [h2]
      · simp [h1, h2]; omega
  generalize n / 2 ^ k = Q at hm ⊢
  generalize n % 2 ^ k = r at hm hr hinc
  generalize 2 ^ (k - 1) = H at hD hinc
  generalize 2 ^ k = D at hD hm hr ⊢
  have hn : (n : Int) = (D : Int) * (Q : Int) + (r : Int) := by rw [← hm]; simp
  have e2 : (n : Int) - t * (D : Int) = (r : Int) - (t - Q) * (D : Int) := by
    rw [hn, Int.sub_mul, Int.mul_comm (Q : Int)]; omega
  have hu : (t - Q) * (D : Int) ≤ 0 ∨ (D : Int) ≤ (t - Q) * (D : Int) := by
    rcases Int.lt_or_le 0 (t - Q) with h | h
    · right
      have := Int.mul_le_mul_of_nonneg_right (show (1 : Int) ≤ t - Q by omega) (show (0 : Int) ≤ (D : Int) by omega)
      omega
    · left
      have := Int.mul_le_mul_of_nonneg_right h (show (0 : Int) ≤ (D : Int) by omega)
      omega
  rw [e2]
  by_cases hc : incV n k false true = true
  · rw [if_pos hc]
    have := hinc.1 hc
    have e1 : (n : Int) - ((Q + 1 : Nat) : Int) * (D : Int) = (r : Int) - (D : Int) := by
      rw [hn, show ((Q + 1 : Nat) : Int) = (Q : Int) + 1 by omega, Int.add_mul, Int.mul_comm (Q : Int)]; omega
    rw [e1]; omega
  · rw [if_neg hc]
    have := hinc.2 hc
    have e1 : (n : Int) - ((Q + 0 : Nat) : Int) * (D : Int) = (r : Int) := by
      rw [hn, Nat.add_zero, Int.mul_comm (Q : Int)]; omega
    rw [e1]; omega
theorem q_exact {n k : Nat} (h : n % 2 ^ k = 0) : (n / 2 ^ k + if incV n k false true = true then 1 else 0) * 2 ^ k = n := by
  have hi : incV n k false true = false := by
    have : 0 < 2 ^ (k - 1) := Nat.pow_pos (by omega)
    unfold incV
    rw [h]
    simp
    omega
  rw [hi, if_neg (by simp), Nat.add_zero]
  have := Nat.div_add_mod n (2 ^ k)
  rw [Nat.mul_comm]; omega
theorem pw2 (a b : Nat) : ((2 ^ (a + b) : Nat) : Int) = ((2 ^ a : Nat) : Int) * ((2 ^ b : Nat) : Int) := by rw [Nat.pow_add, Int.natCast_mul]
theorem err_rep {n : Nat} {x y : Int} {i j : Nat} (hn : n ≠ 0) (hz : (n : Int) = x * ((2 ^ i : Nat) : Int) + y * ((2 ^ j : Nat) : Int)) (hx : x.natAbs < 2 ^ 53) (hij : j ≤ i) :
    ∃ m : Int, m.natAbs ≤ y.natAbs ∧ (n : Int) - (qN n : Int) * ((2 ^ (bl n - 53) : Nat) : Int) = m * ((2 ^ j : Nat) : Int) := by
  obtain ⟨k, hk⟩ : ∃ k, bl n - 53 = k := ⟨_, rfl⟩
  unfold qN
  rw [hk]
  have hJ : 0 < 2 ^ j := Nat.pow_pos (by omega)
  have hi : 2 ^ i = 2 ^ (i - j) * 2 ^ j := by rw [← Nat.pow_add]; congr 1; omega
  have hA : x * ((2 ^ i : Nat) : Int) = (x * ((2 ^ (i - j) : Nat) : Int)) * ((2 ^ j : Nat) : Int) := by rw [hi, Int.natCast_mul, Int.mul_assoc]
  have hN : (n : Int) = (x * ((2 ^ (i - j) : Nat) : Int) + y) * ((2 ^ j : Nat) : Int) := by rw [hz, hA, Int.add_mul]
  by_cases hkj : k ≤ j
  · refine ⟨0, by omega, ?_⟩
    have hd : n % 2 ^ k = 0 := by
      have h1 : ((2 ^ k : Nat) : Int) ∣ (n : Int) := by
        rw [hN, show 2 ^ j = 2 ^ (j - k) * 2 ^ k by rw [← Nat.pow_add]; congr 1; omega, Int.natCast_mul, ← Int.mul_assoc]
        exact Int.dvd_mul_left _ _
      exact Nat.mod_eq_zero_of_dvd (Int.natCast_dvd_natCast.1 h1)
    have := q_exact hd
    rw [← Int.natCast_mul, this]; omega
  · have hbl : bl n = 53 + k := by omega
    have hK : 2 ^ k = 2 ^ (k - j) * 2 ^ j := by rw [← Nat.pow_add]; congr 1; omega
    obtain ⟨q, hq⟩ : ∃ q, (n / 2 ^ k + if incV n k false true = true then 1 else 0 : Nat) = q := ⟨_, rfl⟩
    have near := nearest n k (by omega)
    rw [hq] at near ⊢
    have hd : (n : Int) - (q : Int) * ((2 ^ k : Nat) : Int) = (x * ((2 ^ (i - j) : Nat) : Int) + y - (q : Int) * ((2 ^ (k - j) : Nat) : Int)) * ((2 ^ j : Nat) : Int) := by
      rw [Int.sub_mul, ← hN, Int.mul_assoc (q : Int), ← pw2, show k - j + j = k by omega]
    refine ⟨_, ?_, hd⟩
    have hB : ((n : Int) - x * ((2 ^ i : Nat) : Int)).natAbs = y.natAbs * 2 ^ j := by
      rw [show (n : Int) - x * ((2 ^ i : Nat) : Int) = y * ((2 ^ j : Nat) : Int) by omega, Int.natAbs_mul, Int.natAbs_natCast]
    have hle : ((n : Int) - (q : Int) * ((2 ^ k : Nat) : Int)).natAbs ≤ ((n : Int) - x * ((2 ^ i : Nat) : Int)).natAbs := by
      by_cases hik : k ≤ i
      · have := near (x * ((2 ^ (i - k) : Nat) : Int))
        rw [Int.mul_assoc x, ← pw2, show i - k + k = i by omega] at this
        exact this
      · have h1 := near ((2 ^ 52 : Nat) : Int)
        rw [← pw2] at h1
        have h2 : 2 ^ (52 + k) ≤ n := by
          refine Nat.le_of_not_lt fun h => ?_
          have := bl_le.2 h
          omega
        have h3 : (x * ((2 ^ i : Nat) : Int)).natAbs ≤ 2 ^ (52 + k) := by
          rw [Int.natAbs_mul, Int.natAbs_natCast]
          refine Nat.le_trans (Nat.mul_le_mul_right _ (Nat.le_of_lt hx)) ?_
          rw [← Nat.pow_add]
          exact Nat.pow_le_pow_right (by omega) (by omega)
        omega
    rw [hB, hd, Int.natAbs_mul, Int.natAbs_natCast] at hle
    exact Nat.le_of_mul_le_mul_right hle hJ
theorem flz_sign {f : Nat} (h : f < infB) (neg : Bool) : Fin64 (signV neg f) ∧ flz (signV neg f) = if neg = true then -(magN f : Int) else (magN f : Int) := by
  unfold infB at h
  have hm : ∀ b, flz b = if sgn b = true then -(magN b : Int) else (magN b : Int) := by
    intro b
    unfold flz floV magN
    rw [Int.natCast_mul, Int.natCast_pow]
    split
    · rw [Int.neg_mul]; rfl
    · rfl
  cases neg
  · rw [show signV false f = f from rfl]
    refine ⟨⟨by omega, by omega⟩, ?_⟩
    rw [hm, show sgn f = false from decide_eq_false (by omega)]
  · rw [show signV true f = f + 9223372036854775808 from rfl]
    refine ⟨⟨by omega, by omega⟩, ?_⟩
    have e1 : expo (f + 9223372036854775808) = expo f := by unfold expo; omega
    have e2 : frac (f + 9223372036854775808) = frac f := by unfold frac; omega
    have e3 : magN (f + 9223372036854775808) = magN f := by unfold magN manti expoV; rw [e1, e2]
    rw [hm, show sgn (f + 9223372036854775808) = true from decide_eq_true (by omega), e3]
theorem rnd_eq {z : Int} (hz : z ≠ 0) : rndZ z 2 = signV (decide (z < 0)) (magV z.natAbs (-1074) false true) := by
  unfold rndZ
  rw [if_neg hz, roundV_eq]
  have : (if decide (z < 0) = true then (2 : Int) == 1 else (2 : Int) == 3) = false := by split <;> rfl
  rw [this]; rfl
theorem rnd_exact {m : Int} {j : Nat} (hm : m.natAbs < 2 ^ 53) (hlt : (m * ((2 ^ j : Nat) : Int)).natAbs < 2 ^ 2098) : Fin64 (rndZ (m * ((2 ^ j : Nat) : Int)) 2) ∧ flz (rndZ (m * ((2 ^ j : Nat) : Int)) 2) = m * ((2 ^ j : Nat) : Int) := by
  by_cases hz : m * ((2 ^ j : Nat) : Int) = 0
  · rw [hz]
    exact ⟨by decide, by show flz 0 = 0; exact (flz_zero (by decide)).2 rfl⟩
  · have hn : (m * ((2 ^ j : Nat) : Int)).natAbs = m.natAbs * 2 ^ j := by rw [Int.natAbs_mul, Int.natAbs_natCast]
    have hn0 : m.natAbs * 2 ^ j ≠ 0 := by rw [← hn]; omega
    have hm0 : m.natAbs ≠ 0 := fun h => hn0 (by rw [h, Nat.zero_mul])
    have hb := bl_mul_pow hm0 j
    have hb2 : bl m.natAbs ≤ 53 := bl_le.2 hm
    have hk : bl (m.natAbs * 2 ^ j) - 53 ≤ j := by omega
    have hdiv : (m.natAbs * 2 ^ j) % 2 ^ (bl (m.natAbs * 2 ^ j) - 53) = 0 := by
      obtain ⟨k, hkk⟩ : ∃ k, bl (m.natAbs * 2 ^ j) - 53 = k := ⟨_, rfl⟩
      rw [hkk] at hk ⊢
      refine Nat.mod_eq_zero_of_dvd ?_
      exact Nat.dvd_trans (Nat.pow_dvd_pow 2 hk) (Nat.dvd_mul_left _ _)
    have hq : qN (m.natAbs * 2 ^ j) * 2 ^ (bl (m.natAbs * 2 ^ j) - 53) = m.natAbs * 2 ^ j := q_exact hdiv
    obtain ⟨h1, h2⟩ := magV_val (m.natAbs * 2 ^ j) hn0
    rw [hq] at h1 h2
    have hbl : bl (m.natAbs * 2 ^ j) ≤ 2098 := by rw [← hn]; exact bl_le.2 hlt
    have h3 := h2 hbl hbl
    obtain ⟨f1, f2⟩ := flz_sign h3 (decide (m * ((2 ^ j : Nat) : Int) < 0))
    rw [rnd_eq hz, hn]
    refine ⟨f1, ?_⟩
    rw [f2, h1 h3, ← hn]
    by_cases hneg : m * ((2 ^ j : Nat) : Int) < 0
    · rw [if_pos (decide_eq_true hneg)]; omega
    · rw [if_neg (by simpa using hneg)]; omega
theorem flz_parts (a : Nat) : ∃ i : Nat, flz a = floV a * ((2 ^ i : Nat) : Int) ∧ (floV a).natAbs < 2 ^ 53 := by
  refine ⟨(expoV a + 1074).toNat, ?_, ?_⟩
  · unfold flz; rw [Int.natCast_pow]; rfl
  · rw [floV_natAbs, h53]; exact manti_lt a
theorem err_one {x y : Int} {i j : Nat} (hx : x.natAbs < 2 ^ 53) (hy : y.natAbs < 2 ^ 53) (hij : j ≤ i) (hz : x * ((2 ^ i : Nat) : Int) + y * ((2 ^ j : Nat) : Int) ≠ 0) (hf : Fin64 (rndZ (x * ((2 ^ i : Nat) : Int) + y * ((2 ^ j : Nat) : Int)) 2)) :
    ∃ m : Int, m.natAbs ≤ y.natAbs ∧ x * ((2 ^ i : Nat) : Int) + y * ((2 ^ j : Nat) : Int) - flz (rndZ (x * ((2 ^ i : Nat) : Int) + y * ((2 ^ j : Nat) : Int)) 2) = m * ((2 ^ j : Nat) : Int) := by
  obtain ⟨Z, hZ⟩ : ∃ Z, x * ((2 ^ i : Nat) : Int) + y * ((2 ^ j : Nat) : Int) = Z := ⟨_, rfl⟩
  rw [hZ] at hz hf ⊢
  have hn : Z.natAbs ≠ 0 := by omega
  have hle := magV_le Z.natAbs (-1074) false true hn
  have hlt : magV Z.natAbs (-1074) false true < infB := by
    rw [rnd_eq hz] at hf
    have h2 := hf.2
    unfold infB at hle ⊢
    unfold signV at h2
    split at h2 <;> omega
  have hv := (magV_val Z.natAbs hn).1 hlt
  obtain ⟨_, f2⟩ := flz_sign hlt (decide (Z < 0))
  rw [rnd_eq hz, f2, hv]
  by_cases hneg : Z < 0
  · rw [if_pos (decide_eq_true hneg)]
    obtain ⟨m, h1, h2⟩ := err_rep (n := Z.natAbs) (x := -x) (y := -y) (i := i) (j := j) hn (by rw [Int.neg_mul, Int.neg_mul]; omega) (by rw [Int.natAbs_neg]; exact hx) hij
    refine ⟨-m, by rw [Int.natAbs_neg] at h1 ⊢; exact h1, ?_⟩
    rw [Int.neg_mul, ← h2, Int.natCast_mul]; omega
  · rw [if_neg (by simpa using hneg)]
    obtain ⟨m, h1, h2⟩ := err_rep (n := Z.natAbs) (x := x) (y := y) (i := i) (j := j) hn (by omega) hx hij
    refine ⟨m, h1, ?_⟩
    rw [← h2, Int.natCast_mul]; omega
theorem lost_exact {a b : Nat} (ha : a < 18446744073709551616) (hb : b < 18446744073709551616) (hf : Fin64 (sumT a b)) : Fin64 (lostT a b) ∧ flz (lostT a b) = flz a + flz b - flz (sumT a b) := by
  obtain ⟨fa, fb, hs⟩ := sumT_fin ha hb hf
  have z0 : Fin64 0 := by decide
  have z00 : flz 0 = 0 := (flz_zero z0).2 rfl
  unfold lostT
  rw [if_pos hf]
  obtain ⟨n1, i1⟩ := kind_fin fa
  obtain ⟨n2, i2⟩ := kind_fin fb
  have hv : sumT a b = if flz a + flz b = 0 then (if sgn a = true ∧ sgn b = true then 9223372036854775808 else 0) else rndZ (flz a + flz b) 2 := by
    rw [hs]; unfold sumV
    rw [if_neg (by rw [n1, n2]; simp), if_neg (by rw [i1]; simp), if_neg (by rw [i2]; simp)]
  by_cases hZ : flz a + flz b = 0
  · have : flz (sumT a b) = 0 := by
      rw [hv, if_pos hZ]
      split
      · exact (flz_zero (by decide)).2 rfl
      · exact z00
    rw [this, hZ]
    exact ⟨z0, by show flz 0 = _; rw [z00]; omega⟩
  · rw [if_neg hZ] at hv
    rw [hv] at hf ⊢
    obtain ⟨i, ei, bi⟩ := flz_parts a
    obtain ⟨j, ej, bj⟩ := flz_parts b
    have la := flz_lt fa
    have lb := flz_lt fb
    have fin : ∀ {m y : Int} {k : Nat} {d : Int}, m.natAbs ≤ y.natAbs → y.natAbs < 2 ^ 53 → (y * ((2 ^ k : Nat) : Int)).natAbs < 2 ^ 2098 → d = m * ((2 ^ k : Nat) : Int) → Fin64 (rndZ d 2) ∧ flz (rndZ d 2) = d := by
      intro m y k d h1 h2 h3 h4
      subst h4
      refine rnd_exact (Nat.lt_of_le_of_lt h1 h2) (Nat.lt_of_le_of_lt ?_ h3)
      rw [Int.natAbs_mul, Int.natAbs_mul]
      exact Nat.mul_le_mul_right _ h1
    rcases Nat.le_total j i with h | h
    · rw [ei, ej] at hZ hf ⊢
      rw [ej] at lb
      obtain ⟨m, h1, h2⟩ := err_one bi bj h hZ hf
      exact fin h1 bj lb h2
    · rw [Int.add_comm (flz a)] at hZ hf ⊢
      rw [ei, ej] at hZ hf ⊢
      rw [ei] at la
      obtain ⟨m, h1, h2⟩ := err_one bj bi h hZ hf
      exact fin h1 bi la h2
end Go.Proofs.YthmeocigliephaaGreatDoor.Big
end
section
namespace Go.Proofs.YthmeocigliephaaGreatDoor
open Go.RowKit Go.Proofs.YthmeocigliephaaGreatDoorW.PrintWords Go.Proofs.YthmeocigliephaaGreatDoor.Big
def sums_Exact.f (l0 : List Nat) (a1 : Int) : Option (Nat × Int) :=
  if l0.length < 4611686018427387904 ∧ ∀ b ∈ l0, b < 18446744073709551616 then some (exactW l0 a1 (canN (sumZ l0) (-1074))) else none
end Go.Proofs.YthmeocigliephaaGreatDoor
end
section
namespace Go.Proofs.YthmeocigliephaaGreatDoor
open Go.RowKit Go.Proofs.YthmeocigliephaaGreatDoorW.PrintWords Go.Proofs.YthmeocigliephaaGreatDoor.Big
def cusplaw05_sure.f : Option Bool := some true
end Go.Proofs.YthmeocigliephaaGreatDoor
end
section
namespace Go.Proofs.YthmeocigliephaaGreatDoor.PSu
attribute [local go_sem] f64bits_run f64from_run run_float_some max2_int min2_int max_two min_two max_three min_three max_four min_four
def cuspref02_Float.f (k : Nat) (a0 : Nat) : Option (Bool × List Int × Int) := if (wrap64 (Go.bits .and .u64 (((a0 : Nat) : Int) / 4503599627370496) 2047)) = 0 then ((cuspref02_norm.f k ((((a0 : Nat) : Int) / 9223372036854775808) == 1) (([(Go.bits .and .u64 ((a0 : Nat) : Int) 4503599627370495) % 4294967296, ((Go.bits .and .u64 ((a0 : Nat) : Int) 4503599627370495) / 4294967296) % 4294967296] : List Int)) (1 - 1075)).bind fun bt361 => (some (bt361.1, bt361.2.1, bt361.2.2))) else ((cuspref02_norm.f k ((((a0 : Nat) : Int) / 9223372036854775808) == 1) (([(Go.bits .or .u64 (Go.bits .and .u64 ((a0 : Nat) : Int) 4503599627370495) 4503599627370496) % 4294967296, ((Go.bits .or .u64 (Go.bits .and .u64 ((a0 : Nat) : Int) 4503599627370495) 4503599627370496) / 4294967296) % 4294967296] : List Int)) (wrap64 ((wrap64 (Go.bits .and .u64 (((a0 : Nat) : Int) / 4503599627370496) 2047)) - 1075))).bind fun bt369 => (some (bt369.1, bt369.2.1, bt369.2.2)))
theorem cuspref02_Float.calls (k : Nat) (a0 : Nat) (r1 : Bool) (r2 : List Int) (r3 : Int) (w : World) (h : cuspref02_Float.f k a0 = some (r1, r2, r3)) :
  Calls Tryz.prog 26 #[.float .f64 a0] w fun e w' => ∃ v1_ : Value, e = .returned (.agg #[.bool r1, v1_, .int .i64 r3]) ∧ Kd.R (Kd.int .u32) 83 w' w.heap.size (fun _ => True) v1_ r2 ∧ Below w.heap.size w w' := by
 have hu41 := Tryz.underlying41
 have HB := asd (Below.refl w.heap.size w)
 have H : (if (wrap64 (Go.bits .and .u64 (((a0 : Nat) : Int) / 4503599627370496) 2047)) = 0 then ((cuspref02_norm.f k ((((a0 : Nat) : Int) / 9223372036854775808) == 1) (([(Go.bits .and .u64 ((a0 : Nat) : Int) 4503599627370495) % 4294967296, ((Go.bits .and .u64 ((a0 : Nat) : Int) 4503599627370495) / 4294967296) % 4294967296] : List Int)) (1 - 1075)).bind fun bt361 => (some (bt361.1, bt361.2.1, bt361.2.2))) else ((cuspref02_norm.f k ((((a0 : Nat) : Int) / 9223372036854775808) == 1) (([(Go.bits .or .u64 (Go.bits .and .u64 ((a0 : Nat) : Int) 4503599627370495) 4503599627370496) % 4294967296, ((Go.bits .or .u64 (Go.bits .and .u64 ((a0 : Nat) : Int) 4503599627370495) 4503599627370496) / 4294967296) % 4294967296] : List Int)) (wrap64 ((wrap64 (Go.bits .and .u64 (((a0 : Nat) : Int) / 4503599627370496) 2047)) - 1075))).bind fun bt369 => (some (bt369.1, bt369.2.1, bt369.2.2)))) = some (r1, r2, r3) := h
 clear h
 by_cases c2 : (wrap64 (Go.bits .and .u64 (((a0 : Nat) : Int) / 4503599627370496) 2047)) = 0
 ·rw [if_pos c2] at H
  have c2b0 : ((wrap64 (Go.bits .and .u64 (((a0 : Nat) : Int) / 4503599627370496) 2047)) == 0) = true := beq_iff_eq.mpr c2
  have c2b1 : ((wrap64 (Go.bits .and .u64 (((a0 : Nat) : Int) / 4503599627370496) 2047)) != 0) = false := bne_eq_false_iff_eq.mpr c2
  clear c2
  obtain ⟨y358, hy358⟩ : ∃ y_ : List Int, y_ = (([(Go.bits .and .u64 ((a0 : Nat) : Int) 4503599627370495) % 4294967296, ((Go.bits .and .u64 ((a0 : Nat) : Int) 4503599627370495) / 4294967296) % 4294967296] : List Int)) := ⟨_, rfl⟩
  replace H : ((cuspref02_norm.f k ((((a0 : Nat) : Int) / 9223372036854775808) == 1) y358 (1 - 1075)).bind fun bt361 => (some (bt361.1, bt361.2.1, bt361.2.2))) = some (r1, r2, r3) := by first | (rw [hy358]; with_reducible exact H) | (have H2_ := (Option.bind_some _ _).symm.trans H; rw [hy358]; with_reducible exact H2_) | (have H2_ := (Option.bind_some _ _).symm.trans H; with_reducible exact H2_) | with_reducible exact H | (rw [hy358]; exact H) | exact H
  have Ny358 := asd hy358
  clear hy358
  replace H := Option.bind_eq_some_iff.mp H
  obtain ⟨⟨t361, t362, t365⟩, A30, H⟩ := H
  replace H : (some (t361, t362, t365)) = some (r1, r2, r3) := H
  have A3 := asd A30
  clear A30
  simp only [Option.some.injEq, Prod.mk.injEq] at H
  obtain ⟨rfl, rfl, rfl⟩ := H
  go_enter Tryz.func26, Tryz.ntmps26
  go_wp2_with (first | ((with_reducible refine gate_dst (N := 2) rfl ?_); refine box_event ?hg (N := 2) ?hd (cs := #[.bool false, .slice none 0 0, .int .i64 0]) (t := 41) ?hr ?_; (case hd => rfl); (case hg => rfl); (case hr => first | (go_simp; done) | (go_simp; rfl)); intro gb357 hg w4 hbox hb; have n0_ := asd (below_step hbw hb); have n1_ := asd (hbox); have n2_ := asd ((by rw [hg]; exact (below_size hbw) : w.heap.size ≤ gb357)); have n3_ := asd ((by rw [hg]; exact (below_size hbw) : w.heap.size ≤ gb357)); clear HB; have HB := n0_; have BK357 := n1_; have GW357 := n2_; have GE357 := n3_; clear n0_ n1_ n2_ n3_; clear hb hbox hg) | ((with_reducible refine gate_dst (N := 26) rfl ?_); refine Kd.R_lit (Kd.int .u32) _ 83 ?hg (N := 26) ?hd (xs := ([(Go.bits .and .u64 ((a0 : Nat) : Int) 4503599627370495) % 4294967296, ((Go.bits .and .u64 ((a0 : Nat) : Int) 4503599627370495) / 4294967296) % 4294967296] : List Int)) (inner := [.int .u32 ((Go.bits .and .u64 ((a0 : Nat) : Int) 4503599627370495) % 4294967296), .int .u32 (((Go.bits .and .u64 ((a0 : Nat) : Int) 4503599627370495) / 4294967296) % 4294967296)]) (ok := fun _ => True) (okp := fun _ => True) ?hr ?hp (fun _ hk => hk) trivial (Below.refl _ _) (Nat.le_refl _) (by simp) ?_; (case hd => rfl); (case hg => rfl); (case hr => first | (go_simp; done) | (go_simp; rfl)); (case hp => exact (Reps.one (show Kd.M (Kd.int .u32) _ _ _ ((Go.bits .and .u64 ((a0 : Nat) : Int) 4503599627370495) % 4294967296) [.int .u32 ((Go.bits .and .u64 ((a0 : Nat) : Int) 4503599627370495) % 4294967296)] from rfl) (Reps.one (show Kd.M (Kd.int .u32) _ _ _ (((Go.bits .and .u64 ((a0 : Nat) : Int) 4503599627370495) / 4294967296) % 4294967296) [.int .u32 (((Go.bits .and .u64 ((a0 : Nat) : Int) 4503599627370495) / 4294967296) % 4294967296)] from rfl) (Reps.none _ _)))); intro v359 w5 ho6 hb hg_ hnew_; clear hg_ hnew_; (first | rw [← Ny358.out] at ho6 | (simp only [Int.reduceToNat] at ho6; rw [← Ny358.out] at ho6)); have n0_ := asd (Kd.R_lower ho6 (below_size (by repeat (first | (with_reducible first | exact HB.out | apply below_alloc | apply pw_below_drewN | apply below_drew1 | refine below_set ?_ GE357.out) | exact HB.out)))); have n1_ := asd (blk_below (g := gb357) (o := .cells #[.bool false, .slice none 0 0, .int .i64 0] 41 (0, 0)) (blkU BK357.out) hb); have n2_ := asd (below_step (by repeat (first | (with_reducible first | exact HB.out | apply below_alloc | apply pw_below_drewN | apply below_drew1 | refine below_set ?_ GE357.out) | exact HB.out)) hb); clear BK357; clear HB; have HO360 := n0_; have BK357 := n1_; have HB := n2_; clear n0_ n1_ n2_; clear hb ho6; obtain ⟨Ao7, co7, eo7⟩ := Kd.R_slice HO360.out; subst eo7) | ((with_reducible refine gate_callee (f := 65) rfl ?_); refine goesL_ (some 29) rfl rfl Tryz.func65 (by kernel_rfl) rfl #[.bool ((((a0 : Nat) : Int) / 9223372036854775808) == 1), .slice Ao7 y358.length co7, .int .i64 (1 - 1075)] rfl eqA ?_; (with_reducible refine (cuspref02_norm.calls k ((((a0 : Nat) : Int) / 9223372036854775808) == 1) (fun k_ => some k_ = (.slice Ao7 y358.length co7 : Value).ownBlock) (.slice Ao7 y358.length co7) y358 (1 - 1075) t361 t362 t365 w _ ?side1 ?side2 A3.out).mono ?_); (case side1 => repeat (first | (with_reducible first | exact HB.out | apply below_alloc | apply pw_below_drewN | apply below_drew1 | refine below_set ?_ GE357.out) | exact HB.out)); (case side2 => exact Kd.R_tight rfl HO360.out); rintro e w8 ⟨v363, rfl, ho0, hb, hkp⟩; refine ⟨_, rfl, ?_⟩; have n0_ := asd (blk_kept (blkU BK357.out) hkp (fun hs_ => (fun e_ => (Kd.R_ne HO360.out BK357.out (by decide)) e_) hs_)); have n1_ := asd (Kd.R_mono (ok' := fun k_ => True) ho0 (fun k_ hk_ => trivial)); have n2_ := asd (hb); clear BK357; clear HB; clear HO360; have BK357 := n0_; have HO364 := n1_; have HB := n2_; clear n0_ n1_ n2_; (try clear hb); (try clear hkp); (try clear ho0); have hcz9_0 : w8.cell? ⟨gb357, 0, none⟩ = some (.bool false) := (blk_cell BK357.out 0).trans rfl; have hcz9_1 : w8.cell? ⟨gb357, 1, none⟩ = some (.slice none 0 0) := (blk_cell BK357.out 1).trans rfl; have hcz9_2 : w8.cell? ⟨gb357, 2, none⟩ = some (.int .i64 0) := (blk_cell BK357.out 2).trans rfl; have hfz9_0 := blk_frozen BK357.out 0; have hfz9_1 := blk_frozen BK357.out 1; have hfz9_2 := blk_frozen BK357.out 2; obtain ⟨Ao10, co10, eo10⟩ := Kd.R_slice HO364.out; subst eo10))
  refine bodyPost_ret (results_cell_row rfl _ _ gb357 41 #[.bool t361, .slice Ao10 t362.length co10, .int .i64 t365] (0, 0) _ rfl (by (with_reducible repeat (first | refine blk_drewN ?_ _ | refine blk_drew ?_ | refine blk_alloc ?_ _)); refine blk_put (cs := #[.bool t361, .slice Ao10 t362.length co10, .int .i64 0]) ?_ 2 _ rfl; (with_reducible repeat (first | refine blk_drewN ?_ _ | refine blk_drew ?_ | refine blk_alloc ?_ _)); refine blk_put (cs := #[.bool t361, .slice none 0 0, .int .i64 0]) ?_ 1 _ rfl; (with_reducible repeat (first | refine blk_drewN ?_ _ | refine blk_drew ?_ | refine blk_alloc ?_ _)); refine blk_put (cs := #[.bool false, .slice none 0 0, .int .i64 0]) ?_ 0 _ rfl; (with_reducible repeat (first | refine blk_drewN ?_ _ | refine blk_drew ?_ | refine blk_alloc ?_ _)); exact BK357.out) Tryz.underlying41 rfl (by kernel_rfl)) rfl ?_
  exact ⟨_, eqC, by (with_reducible repeat (first | apply Kd.R_alloc | apply Kd.R_drewN | apply Kd.R_drew)); exact Kd.R_mono (Kd.R_far (p := ⟨gb357, 2, none⟩) (Kd.R_far (p := ⟨gb357, 1, none⟩) (Kd.R_far (p := ⟨gb357, 0, none⟩) (Kd.R_types HO364.out BK357.out (by decide)) (fun _ hk => hk.2) (.bool t361)) (fun _ hk => hk.2) (.slice Ao10 t362.length co10)) (fun _ hk => hk.2) (.int .i64 t365)) (fun _ hk => trivial), by repeat (first | (with_reducible first | exact HB.out | apply below_alloc | apply pw_below_drewN | apply below_drew1 | refine below_set ?_ GE357.out) | exact HB.out)⟩
 ·rw [if_neg c2] at H
  have c2b0 : ((wrap64 (Go.bits .and .u64 (((a0 : Nat) : Int) / 4503599627370496) 2047)) == 0) = false := beq_eq_false_iff_ne.mpr c2
  have c2b1 : ((wrap64 (Go.bits .and .u64 (((a0 : Nat) : Int) / 4503599627370496) 2047)) != 0) = true := bne_iff_ne.mpr c2
  obtain ⟨y366, hy366⟩ : ∃ y_ : List Int, y_ = (([(Go.bits .or .u64 (Go.bits .and .u64 ((a0 : Nat) : Int) 4503599627370495) 4503599627370496) % 4294967296, ((Go.bits .or .u64 (Go.bits .and .u64 ((a0 : Nat) : Int) 4503599627370495) 4503599627370496) / 4294967296) % 4294967296] : List Int)) := ⟨_, rfl⟩
  replace H : ((cuspref02_norm.f k ((((a0 : Nat) : Int) / 9223372036854775808) == 1) y366 (wrap64 ((wrap64 (Go.bits .and .u64 (((a0 : Nat) : Int) / 4503599627370496) 2047)) - 1075))).bind fun bt369 => (some (bt369.1, bt369.2.1, bt369.2.2))) = some (r1, r2, r3) := by first | (rw [hy366]; with_reducible exact H) | (have H2_ := (Option.bind_some _ _).symm.trans H; rw [hy366]; with_reducible exact H2_) | (have H2_ := (Option.bind_some _ _).symm.trans H; with_reducible exact H2_) | with_reducible exact H | (rw [hy366]; exact H) | exact H
  have Ny366 := asd hy366
  clear hy366
  replace H := Option.bind_eq_some_iff.mp H
  obtain ⟨⟨t369, t370, t373⟩, A110, H⟩ := H
  replace H : (some (t369, t370, t373)) = some (r1, r2, r3) := H
  have A11 := asd A110
  clear A110
  simp only [Option.some.injEq, Prod.mk.injEq] at H
  obtain ⟨rfl, rfl, rfl⟩ := H
  go_enter Tryz.func26, Tryz.ntmps26
  go_wp2_with (first | ((with_reducible refine gate_dst (N := 2) rfl ?_); refine box_event ?hg (N := 2) ?hd (cs := #[.bool false, .slice none 0 0, .int .i64 0]) (t := 41) ?hr ?_; (case hd => rfl); (case hg => rfl); (case hr => first | (go_simp; done) | (go_simp; rfl)); intro gb357 hg w12 hbox hb; have n0_ := asd (below_step hbw hb); have n1_ := asd (hbox); have n2_ := asd ((by rw [hg]; exact (below_size hbw) : w.heap.size ≤ gb357)); have n3_ := asd ((by rw [hg]; exact (below_size hbw) : w.heap.size ≤ gb357)); clear HB; have HB := n0_; have BK357 := n1_; have GW357 := n2_; have GE357 := n3_; clear n0_ n1_ n2_ n3_; clear hb hbox hg) | ((with_reducible refine gate_dst (N := 26) rfl ?_); refine Kd.R_lit (Kd.int .u32) _ 83 ?hg (N := 26) ?hd (xs := ([(Go.bits .or .u64 (Go.bits .and .u64 ((a0 : Nat) : Int) 4503599627370495) 4503599627370496) % 4294967296, ((Go.bits .or .u64 (Go.bits .and .u64 ((a0 : Nat) : Int) 4503599627370495) 4503599627370496) / 4294967296) % 4294967296] : List Int)) (inner := [.int .u32 ((Go.bits .or .u64 (Go.bits .and .u64 ((a0 : Nat) : Int) 4503599627370495) 4503599627370496) % 4294967296), .int .u32 (((Go.bits .or .u64 (Go.bits .and .u64 ((a0 : Nat) : Int) 4503599627370495) 4503599627370496) / 4294967296) % 4294967296)]) (ok := fun _ => True) (okp := fun _ => True) ?hr ?hp (fun _ hk => hk) trivial (Below.refl _ _) (Nat.le_refl _) (by simp) ?_; (case hd => rfl); (case hg => rfl); (case hr => first | (go_simp; done) | (go_simp; rfl)); (case hp => exact (Reps.one (show Kd.M (Kd.int .u32) _ _ _ ((Go.bits .or .u64 (Go.bits .and .u64 ((a0 : Nat) : Int) 4503599627370495) 4503599627370496) % 4294967296) [.int .u32 ((Go.bits .or .u64 (Go.bits .and .u64 ((a0 : Nat) : Int) 4503599627370495) 4503599627370496) % 4294967296)] from rfl) (Reps.one (show Kd.M (Kd.int .u32) _ _ _ (((Go.bits .or .u64 (Go.bits .and .u64 ((a0 : Nat) : Int) 4503599627370495) 4503599627370496) / 4294967296) % 4294967296) [.int .u32 (((Go.bits .or .u64 (Go.bits .and .u64 ((a0 : Nat) : Int) 4503599627370495) 4503599627370496) / 4294967296) % 4294967296)] from rfl) (Reps.none _ _)))); intro v367 w13 ho14 hb hg_ hnew_; clear hg_ hnew_; (first | rw [← Ny366.out] at ho14 | (simp only [Int.reduceToNat] at ho14; rw [← Ny366.out] at ho14)); have n0_ := asd (Kd.R_lower ho14 (below_size (by repeat (first | (with_reducible first | exact HB.out | apply below_alloc | apply pw_below_drewN | apply below_drew1 | refine below_set ?_ GE357.out) | exact HB.out)))); have n1_ := asd (blk_below (g := gb357) (o := .cells #[.bool false, .slice none 0 0, .int .i64 0] 41 (0, 0)) (blkU BK357.out) hb); have n2_ := asd (below_step (by repeat (first | (with_reducible first | exact HB.out | apply below_alloc | apply pw_below_drewN | apply below_drew1 | refine below_set ?_ GE357.out) | exact HB.out)) hb); clear BK357; clear HB; have HO368 := n0_; have BK357 := n1_; have HB := n2_; clear n0_ n1_ n2_; clear hb ho14; obtain ⟨Ao15, co15, eo15⟩ := Kd.R_slice HO368.out; subst eo15) | ((with_reducible refine gate_callee (f := 65) rfl ?_); refine goesL_ (some 29) rfl rfl Tryz.func65 (by kernel_rfl) rfl #[.bool ((((a0 : Nat) : Int) / 9223372036854775808) == 1), .slice Ao15 y366.length co15, .int .i64 (wrap64 ((wrap64 (Go.bits .and .u64 (((a0 : Nat) : Int) / 4503599627370496) 2047)) - 1075))] rfl eqA ?_; (with_reducible refine (cuspref02_norm.calls k ((((a0 : Nat) : Int) / 9223372036854775808) == 1) (fun k_ => some k_ = (.slice Ao15 y366.length co15 : Value).ownBlock) (.slice Ao15 y366.length co15) y366 (wrap64 ((wrap64 (Go.bits .and .u64 (((a0 : Nat) : Int) / 4503599627370496) 2047)) - 1075)) t369 t370 t373 w _ ?side1 ?side2 A11.out).mono ?_); (case side1 => repeat (first | (with_reducible first | exact HB.out | apply below_alloc | apply pw_below_drewN | apply below_drew1 | refine below_set ?_ GE357.out) | exact HB.out)); (case side2 => exact Kd.R_tight rfl HO368.out); rintro e w16 ⟨v371, rfl, ho0, hb, hkp⟩; refine ⟨_, rfl, ?_⟩; have n0_ := asd (blk_kept (blkU BK357.out) hkp (fun hs_ => (fun e_ => (Kd.R_ne HO368.out BK357.out (by decide)) e_) hs_)); have n1_ := asd (Kd.R_mono (ok' := fun k_ => True) ho0 (fun k_ hk_ => trivial)); have n2_ := asd (hb); clear BK357; clear HB; clear HO368; have BK357 := n0_; have HO372 := n1_; have HB := n2_; clear n0_ n1_ n2_; (try clear hb); (try clear hkp); (try clear ho0); have hcz17_0 : w16.cell? ⟨gb357, 0, none⟩ = some (.bool false) := (blk_cell BK357.out 0).trans rfl; have hcz17_1 : w16.cell? ⟨gb357, 1, none⟩ = some (.slice none 0 0) := (blk_cell BK357.out 1).trans rfl; have hcz17_2 : w16.cell? ⟨gb357, 2, none⟩ = some (.int .i64 0) := (blk_cell BK357.out 2).trans rfl; have hfz17_0 := blk_frozen BK357.out 0; have hfz17_1 := blk_frozen BK357.out 1; have hfz17_2 := blk_frozen BK357.out 2; obtain ⟨Ao18, co18, eo18⟩ := Kd.R_slice HO372.out; subst eo18))
  refine bodyPost_ret (results_cell_row rfl _ _ gb357 41 #[.bool t369, .slice Ao18 t370.length co18, .int .i64 t373] (0, 0) _ rfl (by (with_reducible repeat (first | refine blk_drewN ?_ _ | refine blk_drew ?_ | refine blk_alloc ?_ _)); refine blk_put (cs := #[.bool t369, .slice Ao18 t370.length co18, .int .i64 0]) ?_ 2 _ rfl; (with_reducible repeat (first | refine blk_drewN ?_ _ | refine blk_drew ?_ | refine blk_alloc ?_ _)); refine blk_put (cs := #[.bool t369, .slice none 0 0, .int .i64 0]) ?_ 1 _ rfl; (with_reducible repeat (first | refine blk_drewN ?_ _ | refine blk_drew ?_ | refine blk_alloc ?_ _)); refine blk_put (cs := #[.bool false, .slice none 0 0, .int .i64 0]) ?_ 0 _ rfl; (with_reducible repeat (first | refine blk_drewN ?_ _ | refine blk_drew ?_ | refine blk_alloc ?_ _)); exact BK357.out) Tryz.underlying41 rfl (by kernel_rfl)) rfl ?_
  exact ⟨_, eqC, by (with_reducible repeat (first | apply Kd.R_alloc | apply Kd.R_drewN | apply Kd.R_drew)); exact Kd.R_mono (Kd.R_far (p := ⟨gb357, 2, none⟩) (Kd.R_far (p := ⟨gb357, 1, none⟩) (Kd.R_far (p := ⟨gb357, 0, none⟩) (Kd.R_types HO372.out BK357.out (by decide)) (fun _ hk => hk.2) (.bool t369)) (fun _ hk => hk.2) (.slice Ao18 t370.length co18)) (fun _ hk => hk.2) (.int .i64 t373)) (fun _ hk => trivial), by repeat (first | (with_reducible first | exact HB.out | apply below_alloc | apply pw_below_drewN | apply below_drew1 | refine below_set ?_ GE357.out) | exact HB.out)⟩
def cuspref05_Total.l0 : Nat → List Nat → Int → Bool → List Int → Int → Option (Bool × List Int × Int)
 | 0, _, _, _, _, _ => none
 | k + 1, x0, x4, x376000, x376001, x376002 => if x4 < (x0.length : Int) then (if 0 ≤ x4 then ((cuspref02_Float.f k (rdOf (0 : Nat) x0 x4)).bind fun bt377 => ((cuspref02_Plus.f x376000 x376001 x376002 bt377.1 bt377.2.1 bt377.2.2).bind fun bt382 => (cuspref05_Total.l0 k x0 (wrap64 (x4 + 1)) bt382.1 bt382.2.1 bt382.2.2))) else (none)) else (some (x376000, x376001, x376002))
def cuspref05_Total.f (k : Nat) (l0 : List Nat) : Option (Bool × List Int × Int) := cuspref05_Total.l0 k l0 0 false ([] : List Int) 0
def cuspref01_Of.f (a0 : Int) : Option (Nat) := some ((a0 : Int).toNat)
def cuspref01_Nought.f (a0 : Bool) : Option (Nat) := if a0 = true then ((cuspref01_Of.f 9223372036854775808).bind fun t387 => (some t387)) else ((cuspref01_Of.f 0).bind fun t388 => (some t388))
def cuspref05_Exact.l0 : Nat → List Nat → Int → Bool → Int → Option (Nat × Int)
 | 0, _, _, _, _ => none
 | k + 1, x0, x1, x7, x8 => if x8 < (x0.length : Int) then (if x7 = true then (if 0 ≤ x8 then ((cuspref01_IsZero.f (rdOf (0 : Nat) x0 x8)).bind fun t392 => (if t392 = true then ((cuspref01_Neg.f (rdOf (0 : Nat) x0 x8)).bind fun t394 => (cuspref05_Exact.l0 k x0 x1 t394 (wrap64 (x8 + 1)))) else (cuspref05_Exact.l0 k x0 x1 false (wrap64 (x8 + 1))))) else (none)) else (cuspref05_Exact.l0 k x0 x1 false (wrap64 (x8 + 1)))) else ((cuspref05_Total.f k x0).bind fun bt395 => ((cuspref01_Nought.f x7).bind fun t400 => ((cuspref03_R.f bt395.1 bt395.2.1 bt395.2.2 x1 t400).bind fun t401 => (some (t401, 0)))))
def cuspref05_Exact.f (k : Nat) (l0 : List Nat) (a1 : Int) : Option (Nat × Int) := (cuspref03_Valid.f a1).bind fun t389 => (if t389 = 0 then ((cuspref05_Fault.f k l0).bind fun t390 => (if t390 = 0 then (cuspref05_Exact.l0 k l0 a1 (decide ((l0.length : Int) > 0)) 0) else (some ((0 : Nat), t390)))) else (some ((0 : Nat), 1)))
def cusplaw05_SumsExact.f (k : Nat) (l0 : List Nat) (a1 : Int) : Option (Bool) := (sums_Exact.f l0 a1).bind fun bt402 => ((cuspref05_Exact.f k l0 a1).bind fun bt404 => ((cusplaw05_same.f bt402.1 bt404.1).bind fun t406 => (if t406 = true then (if bt402.2 = bt404.2 then ((cusplaw05_sure.f).bind fun t407 => (some t407)) else (some false)) else (some false))))
end Go.Proofs.YthmeocigliephaaGreatDoor.PSu
end
section
namespace Go.Proofs.YthmeocigliephaaGreatDoor.Big
open Go.Proofs.YthmeocigliephaaGreatDoor.PSu Go.Proofs.YthmeocigliephaaGreatDoor.Plain
theorem sgn_div {b : Nat} (h : b < 18446744073709551616) : (((b : Int) / 9223372036854775808) == 1) = sgn b := by
  unfold sgn
  by_cases h1 : 9223372036854775808 ≤ b
  · rw [decide_eq_true h1]; simp; omega
  · rw [decide_eq_false h1]; simp; omega
def word2 (m : Nat) : List Int := [((m : Nat) : Int) % 4294967296, (((m : Nat) : Int) / 4294967296) % 4294967296]
theorem word2_val {m : Nat} (h : m < 18446744073709551616) : val (word2 m) = m := by unfold word2; simp [val]; omega
theorem word2_dg (m : Nat) : Dg (word2 m) := Dg.cons (by omega) (by omega) (Dg.one (by omega) (by omega))
theorem rfloat_eq {b : Nat} (h : Fin64 b) (k : Nat) : cuspref02_Float.f k b = (cuspref02_norm.f k (sgn b) (word2 (manti b)) (expoV b)).bind fun bt => some (bt.1, bt.2.1, bt.2.2) := by
  have hx := expo_le h
  unfold cuspref02_Float.f
  rw [bits_frac b h.1, bits_expo b h.1, bits_one b, sgn_div h.1, w64_of (by omega) (by omega)]
  by_cases h0 : expo b = 0
  · have hm : manti b = frac b := by unfold manti; rw [if_pos h0]
    have he : expoV b = 1 - 1075 := by unfold expoV; rw [if_pos h0]
    rw [if_pos (by omega), hm, he]
    rfl
  · have hm : manti b = frac b + 4503599627370496 := by unfold manti; rw [if_neg h0]
    have he : expoV b = (expo b : Int) - 1075 := by unfold expoV; rw [if_neg h0]
    rw [if_neg (by omega), w64_of (x := (expo b : Int) - 1075) (by omega) (by omega), ← he, hm]
    rfl
theorem rfloat_law {b : Nat} (h : Fin64 b) : Ev (fun k => cuspref02_Float.f k b) (canN (flz b) (-1074)) := by
  have hm := manti_lt b
  have he := expoV_range h
  have hn := rnorm_law (sgn b) (word2 (manti b)) (expoV b) (word2_dg _) (by simp [word2]) (by omega) (by omega)
  rw [word2_val (by omega), show (if sgn b = true then -(manti b : Int) else (manti b : Int)) = floV b from rfl, can_flo h] at hn
  exact Ev.congr (fun k => rfloat_eq h k) (Ev.bind hn (Ev.now _))
theorem mag_law {b : Nat} (h : b < 18446744073709551616) : cuspref01_mag.f b = some ((b % 9223372036854775808 : Nat) : Int) := by
  unfold cuspref01_mag.f cuspref01_Bits.f
  rw [Option.bind_some, bits_abs b h]
theorem same_law (a : Nat) : cusplaw05_same.f a a = some true := by
  unfold cusplaw05_same.f cuspref01_Same.f cuspref01_Bits.f
  rw [Option.bind_some, Option.bind_some, if_pos rfl]; rfl
end Go.Proofs.YthmeocigliephaaGreatDoor.Big
end
section
namespace Go.Proofs.YthmeocigliephaaGreatDoor.PSv
attribute [local go_sem] f64bits_run f64from_run run_float_some max2_int min2_int max_two min_two max_three min_three max_four min_four
def errW : Option Int → Value
 | none => .nilIface
 | some c => .iface 0 (.int .i64 c)
theorem errW_none : errW none = .nilIface := rfl
theorem errW_some (c : Int) : errW (some c) = .iface 0 (.int .i64 c) := rfl
end Go.Proofs.YthmeocigliephaaGreatDoor.PSv
end
section
namespace Go.Proofs.YthmeocigliephaaGreatDoor.PSv
open Go.Proofs.YthmeocigliephaaGreatDoor.PSu Go.RowKit Go.Proofs.YthmeocigliephaaGreatDoorW.PrintWords Go.Proofs.YthmeocigliephaaGreatDoorW.PrintLast Go.Proofs.YthmeocigliephaaGreatDoorW.PrintMore
attribute [local go_sem] f64bits_run f64from_run run_float_some max2_int min2_int max_two min_two max_three min_three max_four min_four
def cuspref01_Finite.f (a0 : Nat) : Option (Bool) := (cuspref01_mag.f a0).bind fun t101 => (some (decide (t101 < 9218868437227405312)))
theorem cuspref01_Finite.calls (a0 : Nat) (r : Bool) (w : World) (h : cuspref01_Finite.f a0 = some r) :
  Calls Tryz.prog 24 #[.float .f64 a0] w fun e w' => e = .returned (.bool r) ∧ Drawn0 w w' := by
 have H : ((cuspref01_mag.f a0).bind fun t101 => (some (decide (t101 < 9218868437227405312)))) = some r := h
 clear h
 replace H := Option.bind_eq_some_iff.mp H
 obtain ⟨t101, A20, H⟩ := H
 replace H : (some (decide (t101 < 9218868437227405312))) = some r := H
 have A2 := asd A20
 clear A20
 obtain rfl := Option.some.inj H
 go_enter Tryz.func24, Tryz.ntmps24
 go_wp2_with (first | ((with_reducible refine gate_callee (f := 62) rfl ?_); refine goesL_ (some 4) rfl rfl Tryz.func62 (by kernel_rfl) rfl #[.float .f64 a0] rfl eqA ?_; (with_reducible refine (cuspref01_mag.calls a0 t101 _ A2.out).mono ?_); rintro e w' ⟨rfl, ⟨nd, rfl⟩⟩; refine ⟨_, rfl, ?_⟩))
 go_ret
 exact ⟨eqB, dn0⟩
end Go.Proofs.YthmeocigliephaaGreatDoor.PSv
end
section
namespace Go.Proofs.YthmeocigliephaaGreatDoor.PSv
open Go.Proofs.YthmeocigliephaaGreatDoor.PSu Go.RowKit Go.Proofs.YthmeocigliephaaGreatDoorW.PrintWords Go.Proofs.YthmeocigliephaaGreatDoorW.PrintLast Go.Proofs.YthmeocigliephaaGreatDoorW.PrintMore
attribute [local go_sem] f64bits_run f64from_run run_float_some max2_int min2_int max_two min_two max_three min_three max_four min_four
def cuspref02_Minus.f (a0_0 : Bool) (l0_1 : List Int) (a0_2 : Int) : Option (Bool × List Int × Int) := if (l0_1.length : Int) = 0 then (some (false, ([] : List Int), 0)) else (some (!a0_0, l0_1, a0_2))
def cuspref02_Less.f (a0_0 : Bool) (l0_1 : List Int) (a0_2 : Int) (a1_0 : Bool) (l1_1 : List Int) (a1_2 : Int) : Option (Bool × List Int × Int) := (cuspref02_Minus.f a1_0 l1_1 a1_2).bind fun bt107 => ((cuspref02_Plus.f a0_0 l0_1 a0_2 bt107.1 bt107.2.1 bt107.2.2).bind fun bt112 => (some (bt112.1, bt112.2.1, bt112.2.2)))
end Go.Proofs.YthmeocigliephaaGreatDoor.PSv
end
section
namespace Go.Proofs.YthmeocigliephaaGreatDoor.PSv
open Go.Proofs.YthmeocigliephaaGreatDoor.PSu Go.RowKit Go.Proofs.YthmeocigliephaaGreatDoorW.PrintWords Go.Proofs.YthmeocigliephaaGreatDoorW.PrintLast Go.Proofs.YthmeocigliephaaGreatDoorW.PrintMore
attribute [local go_sem] f64bits_run f64from_run run_float_some max2_int min2_int max_two min_two max_three min_three max_four min_four
def cuspref01_Not.f  : Option (Nat) := (cuspref01_Of.f 9221120237041090560).bind fun t117 => (some t117)
end Go.Proofs.YthmeocigliephaaGreatDoor.PSv
end
section
namespace Go.Proofs.YthmeocigliephaaGreatDoor.PSv
open Go.Proofs.YthmeocigliephaaGreatDoor.PSu Go.RowKit Go.Proofs.YthmeocigliephaaGreatDoorW.PrintWords Go.Proofs.YthmeocigliephaaGreatDoorW.PrintLast Go.Proofs.YthmeocigliephaaGreatDoorW.PrintMore
attribute [local go_sem] f64bits_run f64from_run run_float_some max2_int min2_int max_two min_two max_three min_three max_four min_four
def cuspref03_Sum0.f (a0 : Bool) (a1 : Bool) (a2 : Int) : Option (Nat) := if a0 = true then (if a1 = true then ((cuspref01_Nought.f true).bind fun t118 => (some t118)) else (if a2 = 1 then ((cuspref01_Nought.f true).bind fun t119 => (some t119)) else ((cuspref01_Nought.f false).bind fun t120 => (some t120)))) else (if a2 = 1 then ((cuspref01_Nought.f a1).bind fun t121 => (some t121)) else ((cuspref01_Nought.f false).bind fun t122 => (some t122)))
def cuspref03_sign.f (a0 : Nat) : Option (Bool) := (cuspref01_Neg.f a0).bind fun t123 => (some t123)
mutual
def cuspref03_Add.j0 : Nat → Nat → Nat → Int → Bool → Option (Nat)
 | 0, _, _, _, _ => none
 | k + 1, x0, x1, x2, x7 => if x7 = true then ((cuspref01_Not.f).bind fun t127 => (some t127)) else ((cuspref01_IsInf.f x0).bind fun t128 => (if t128 = true then ((cuspref01_IsInf.f x1).bind fun t129 => (cuspref03_Add.j1 k x0 x1 x2 t129)) else (cuspref03_Add.j1 k x0 x1 x2 false)))
def cuspref03_Add.j1 : Nat → Nat → Nat → Int → Bool → Option (Nat)
 | 0, _, _, _, _ => none
 | k + 1, x0, x1, x2, x20 => if x20 = true then ((cuspref01_Neg.f x0).bind fun t130 => ((cuspref01_Neg.f x1).bind fun t131 => (if (t130 != t131) = true then ((cuspref01_Not.f).bind fun t132 => (some t132)) else (some x0)))) else ((cuspref01_IsInf.f x0).bind fun t133 => (if t133 = true then (some x0) else ((cuspref01_IsInf.f x1).bind fun t134 => (if t134 = true then (some x1) else ((cuspref02_Float.f k x0).bind fun bt135 => ((cuspref02_Float.f k x1).bind fun bt140 => ((cuspref02_Plus.f bt135.1 bt135.2.1 bt135.2.2 bt140.1 bt140.2.1 bt140.2.2).bind fun bt145 => ((cuspref03_sign.f x0).bind fun t150 => ((cuspref03_sign.f x1).bind fun t151 => ((cuspref03_Sum0.f t150 t151 x2).bind fun t152 => ((cuspref03_R.f bt145.1 bt145.2.1 bt145.2.2 x2 t152).bind fun t153 => (some t153))))))))))))
end
def cuspref03_Add.f (k : Nat) (a0 : Nat) (a1 : Nat) (a2 : Int) : Option (Nat) := (cuspref03_Valid.f a2).bind fun t124 => (if t124 = 0 then ((cuspref01_IsNaN.f a0).bind fun t125 => (if t125 = true then (cuspref03_Add.j0 k a0 a1 a2 true) else ((cuspref01_IsNaN.f a1).bind fun t126 => (cuspref03_Add.j0 k a0 a1 a2 t126)))) else (cuspref03_Add.j0 k a0 a1 a2 true))
def cuspref05_add.f (k : Nat) (a0 : Nat) (a1 : Nat) : Option (Nat) := (cuspref03_Add.f k a0 a1 2).bind fun t154 => (some t154)
def cuspref05_Two.f (k : Nat) (a0 : Nat) (a1 : Nat) : Option (Nat × Nat) := (cuspref05_add.f k a0 a1).bind fun t155 => ((cuspref01_Finite.f t155).bind fun t156 => (if t156 = true then ((cuspref02_Float.f k a0).bind fun bt157 => ((cuspref02_Float.f k a1).bind fun bt162 => ((cuspref02_Plus.f bt157.1 bt157.2.1 bt157.2.2 bt162.1 bt162.2.1 bt162.2.2).bind fun bt167 => ((cuspref02_Float.f k t155).bind fun bt172 => ((cuspref02_Less.f bt167.1 bt167.2.1 bt167.2.2 bt172.1 bt172.2.1 bt172.2.2).bind fun bt177 => ((cuspref03_R.f bt177.1 bt177.2.1 bt177.2.2 2 (0 : Nat)).bind fun t182 => (some (t155, t182)))))))) else (some (t155, (0 : Nat)))))
def cusplaw05_SumsTwo.f (k : Nat) (a0 : Nat) (a1 : Nat) : Option (Bool) := (sums_Two.f k a0 a1).bind fun bt183 => ((cuspref05_Two.f k a0 a1).bind fun bt185 => ((cusplaw05_same.f bt183.1 bt185.1).bind fun t187 => (if t187 = true then ((cusplaw05_same.f bt183.2 bt185.2).bind fun t188 => (if t188 = true then ((cusplaw05_sure.f).bind fun t189 => (some t189)) else (some false))) else (some false))))
end Go.Proofs.YthmeocigliephaaGreatDoor.PSv
end
section
namespace Go.Proofs.YthmeocigliephaaGreatDoor.Big
open Go.Proofs.YthmeocigliephaaGreatDoor.PSv Go.Proofs.YthmeocigliephaaGreatDoor.PSu Go.Proofs.YthmeocigliephaaGreatDoor.Plain Ieee
theorem rfinite_law {b : Nat} (h : b < 18446744073709551616) : cuspref01_Finite.f b = some (decide (Fin64 b)) := by
  unfold cuspref01_Finite.f
  rw [mag_law h, Option.bind_some]
  have hk : (((b % 9223372036854775808 : Nat) : Int) < 9218868437227405312) ↔ Fin64 b := by
    unfold Fin64
    constructor
    · intro h2; exact ⟨h, by omega⟩
    · intro h2; have := h2.2; omega
  exact congrArg some (decide_eq_decide.2 hk)
end Go.Proofs.YthmeocigliephaaGreatDoor.Big
end
