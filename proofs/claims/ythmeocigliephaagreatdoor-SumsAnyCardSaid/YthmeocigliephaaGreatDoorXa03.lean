/- Parts of the proof, behind one another; unused words are left out. -/
import Derived.Test.YthmeocigliephaaGreatDoorXa02
import Derived.BigQuiet
import Derived.Deep.QuietTactic
import Derived.Deep.RegionHeld3
import Derived.LoopIn
import Derived.LoopNIn
import Derived.Maps.OwnIn
import Derived.OwnWalkIn
import Derived.RangeFuncBound
import Derived.RangeFuncCalls
import Derived.RangeFuncLeaves
import Derived.RangeFuncNested
import Derived.Shelf.Abstract
import Derived.Shelf.RegionOpen
import Derived.TacticsInMore
import Derived.WalkKit
set_option linter.unusedVariables false
set_option linter.unusedSimpArgs false
set_option linter.unusedSectionVars false
set_option exponentiation.threshold 100000
set_option maxRecDepth 100000
set_option maxHeartbeats 8000000
open Go.RowKit Go.Proofs.YthmeocigliephaaGreatDoorW.PrintWords Go.Proofs.YthmeocigliephaaGreatDoorW.PrintLast Go.Proofs.YthmeocigliephaaGreatDoorW.PrintMore
section
namespace Go.Proofs.YthmeocigliephaaGreatDoor.PSu
attribute [local go_sem] f64bits_run f64from_run run_float_some max2_int min2_int max_two min_two max_three min_three max_four min_four
def cuspref02_Sgn.f (a0_0 : Bool) (l0_1 : List Int) (a0_2 : Int) : Option (Int) := if (l0_1.length : Int) = 0 then (some 0) else (if a0_0 = true then (some (-1)) else (some 1))
theorem cuspref02_Sgn.calls (a0_0 : Bool) (A0_1 : Option Addr) (c0_1 : Nat) (l0_1 : List Int) (a0_2 : Int) (r : Int) (w : World) (hr0_1 : Kd.C (Kd.int .u32) w A0_1 l0_1.length l0_1) (hc0_1 : l0_1.length ≤ c0_1) (h : cuspref02_Sgn.f a0_0 l0_1 a0_2 = some r) :
  Calls Tryz.prog 32 #[.agg #[.bool a0_0, .slice A0_1 l0_1.length c0_1, .int .i64 a0_2]] w fun e w' => e = .returned (.int .i64 r) ∧ Below w.heap.size w w' := by
 have hu41 := Tryz.underlying41
 have HR0_1 := asd hr0_1
 have HC0_1 := asd hc0_1
 clear hr0_1 hc0_1
 have HB := asd (Below.refl w.heap.size w)
 have H := h
 clear h
 unfold cuspref02_Sgn.f at H
 by_cases c2 : (l0_1.length : Int) = 0
 ·rw [if_pos c2] at H
  have c2b0 := beq_iff_eq.mpr c2
  have c2b1 := bne_eq_false_iff_eq.mpr c2
  clear c2
  obtain rfl := Option.some.inj H
  go_enter Tryz.func32, Tryz.ntmps32
  go_wp2_with (first | ((with_reducible refine gate_dst (N := 1) rfl ?_); refine box_ev (w := w) ?hg (N := 1) ?hd hbw (cs := #[.bool a0_0, .slice A0_1 l0_1.length c0_1, .int .i64 a0_2]) (t := 41) ?hr ?_; (case hd => rfl); (case hg => rfl); (case hr => first | (go_simp; done) | (go_simp; rfl)); clear HB; intro gb254 w3 HB BK254 GW254; have GE254 := GW254; obtain ⟨hcz4_0, hcz4_1, hcz4_2, hfz4_0, hfz4_1, hfz4_2⟩ := cz3 BK254.out))
  go_ret
  exact ⟨eqC, hbs⟩
 ·rw [if_neg c2] at H
  have c2b0 := beq_eq_false_iff_ne.mpr c2
  have c2b1 := bne_iff_ne.mpr c2
  have c2b2 : ¬ (l0_1 = []) := fun h_ => c2 (by rw [h_]; rfl)
  by_cases c5 : a0_0 = true
  ·subst c5
   rw [if_pos rfl] at H
   obtain rfl := Option.some.inj H
   go_enter Tryz.func32, Tryz.ntmps32
   go_wp2_with (first | ((with_reducible refine gate_dst (N := 1) rfl ?_); refine box_ev (w := w) ?hg (N := 1) ?hd hbw (cs := #[.bool true, .slice A0_1 l0_1.length c0_1, .int .i64 a0_2]) (t := 41) ?hr ?_; (case hd => rfl); (case hg => rfl); (case hr => first | (go_simp; done) | (go_simp; rfl)); clear HB; intro gb254 w6 HB BK254 GW254; have GE254 := GW254; obtain ⟨hcz7_0, hcz7_1, hcz7_2, hfz7_0, hfz7_1, hfz7_2⟩ := cz3 BK254.out))
   go_ret
   exact ⟨eqC, hbs⟩
  ·replace c5 := Bool.eq_false_iff.mpr c5
   subst c5
   rw [if_neg (show ¬ (false = true) by decide)] at H
   obtain rfl := Option.some.inj H
   go_enter Tryz.func32, Tryz.ntmps32
   go_wp2_with (first | ((with_reducible refine gate_dst (N := 1) rfl ?_); refine box_ev (w := w) ?hg (N := 1) ?hd hbw (cs := #[.bool false, .slice A0_1 l0_1.length c0_1, .int .i64 a0_2]) (t := 41) ?hr ?_; (case hd => rfl); (case hg => rfl); (case hr => first | (go_simp; done) | (go_simp; rfl)); clear HB; intro gb254 w8 HB BK254 GW254; have GE254 := GW254; obtain ⟨hcz9_0, hcz9_1, hcz9_2, hfz9_0, hfz9_1, hfz9_2⟩ := cz3 BK254.out))
   go_ret
   exact ⟨eqC, hbs⟩
def cuspref02_size.l0 : Nat → Int → Int → Option (Int)
 | 0, _, _ => none
 | k + 1, x3, x4 => if x4 > 0 then (cuspref02_size.l0 k (wrap64 (x3 + 1)) (x4 / 2)) else (some x3)
def cuspref02_size.f (k : Nat) (l0 : List Int) : Option (Int) := if (l0.length : Int) = 0 then (some 0) else (if 0 ≤ (wrap64 ((l0.length : Int) - 1)) then (if (wrap64 ((l0.length : Int) - 1)) < (l0.length : Int) then (cuspref02_size.l0 k (wrap64 (32 * (wrap64 ((l0.length : Int) - 1)))) (rd l0 (wrap64 ((l0.length : Int) - 1)))) else (none)) else (none))
def cuspref02_High.f (k : Nat) (a0_0 : Bool) (l0_1 : List Int) (a0_2 : Int) : Option (Int) := if (l0_1.length : Int) = 0 then (some 0) else ((cuspref02_size.f k l0_1).bind fun t257 => (some (wrap64 (t257 + a0_2))))
def cuspref02_trim.l0 : Nat → List Int → Int → Option (List Int)
 | 0, _, _ => none
 | k + 1, x0, x3 => if x3 > 0 then (if 0 ≤ (wrap64 (x3 - 1)) then (if (wrap64 (x3 - 1)) < (x0.length : Int) then (if (rd x0 (wrap64 (x3 - 1))) = 0 then (cuspref02_trim.l0 k x0 (wrap64 (x3 - 1))) else (if 0 ≤ x3 then (if x3 ≤ (x0.length : Int) then (some (x0.take (x3 : Int).toNat)) else (none)) else (none))) else (none)) else (none)) else (if 0 ≤ x3 then (if x3 ≤ (x0.length : Int) then (some (x0.take (x3 : Int).toNat)) else (none)) else (none))
def cuspref02_trim.f (k : Nat) (l0 : List Int) : Option (List Int) := cuspref02_trim.l0 k l0 (l0.length : Int)
theorem cuspref02_trim.mono_l : ∀ k, (∀ y0 y1, LeO (cuspref02_trim.l0 k y0 y1) (cuspref02_trim.l0 (k + 1) y0 y1))
 | 0 => fun _ _ r h => by simp [cuspref02_trim.l0] at h
 | k + 1 => by
  have ih0 := cuspref02_trim.mono_l k
  ·intro y0 y1
   unfold cuspref02_trim.l0
   repeat' first
   | (with_reducible exact ih0 _ _)
   | (with_reducible exact LeO.refl _)
   | (with_reducible exact LeO.none _)
   | (with_reducible refine LeO.ite ?_ ?_)
   | (with_reducible refine LeO.bind ?_ (fun _ => ?_))
   | exact ih0 _ _
   | exact LeO.none _
   | refine LeO.ite ?_ ?_
   | refine LeO.bind ?_ (fun _ => ?_)
theorem cuspref02_trim.mono : ∀ a0 k, LeO (cuspref02_trim.f k a0) (cuspref02_trim.f (k + 1) a0) := by
 intro a0 k
 have ih0 := cuspref02_trim.mono_l k
 unfold cuspref02_trim.f
 repeat' first
   | (with_reducible exact ih0 _ _)
   | (with_reducible exact LeO.refl _)
   | (with_reducible exact LeO.none _)
   | (with_reducible refine LeO.ite ?_ ?_)
   | (with_reducible refine LeO.bind ?_ (fun _ => ?_))
   | exact ih0 _ _
   | exact LeO.none _
   | refine LeO.ite ?_ ?_
   | refine LeO.bind ?_ (fun _ => ?_)
theorem cuspref02_trim.calls (k : Nat) (P0_ : Nat → Prop) (u9000_ : Value) (l0 : List Int) (r : List Int) (w0 w : World) (hB : Below w0.heap.size w0 w) (ho0 : Kd.R (Kd.int .u32) 83 w w0.heap.size P0_ u9000_ l0) (h : cuspref02_trim.f k l0 = some r) :
  Calls Tryz.prog 99 #[u9000_] w fun e w' => ∃ v0_ : Value, e = .returned (v0_) ∧ Kd.R (Kd.int .u32) 83 w' w0.heap.size (fun k_ => (P0_ k_ ∨ w.heap.size ≤ k_)) v0_ r ∧ Below w0.heap.size w0 w' ∧ Kept w w' (fun k_ => P0_ k_) := by
 have HO0 := asd (show Kd.R (Kd.int .u32) 83 w w0.heap.size (fun k_ => (P0_ k_ ∨ w.heap.size ≤ k_)) u9000_ l0 from Kd.R_mono ho0 (fun k_ hk => (.inl hk)))
 have HK := asd (Kept.refl w (fun k_ => P0_ k_))
 have HW0 := asd hB.size
 have HB := asd hB
 clear hB
 have H := h
 clear h
 unfold cuspref02_trim.f at H
 have H' := asd H
 clear H
 obtain ⟨Ao2, co2, eo2⟩ := Kd.R_slice HO0.out
 subst eo2
 go_enter Tryz.func99, Tryz.ntmps99
 go_wp2
 go_loopg [3] k (fun kq v3 w' => ∃ (x3_1 : Int), v3 = .int .i64 x3_1 ∧ Aside0 (cuspref02_trim.l0 kq l0 x3_1 = some r) ∧ Aside0 (kq ≤ k) ∧ Aside0 (Kd.R (Kd.int .u32) 83 w' w0.heap.size (fun k_ => (P0_ k_ ∨ w.heap.size ≤ k_)) (.slice Ao2 l0.length co2) l0) ∧ Aside0 (Kept w w' (fun k_ => P0_ k_)) ∧ Aside0 (Below w0.heap.size w0 w'))
 case atStart => exact ⟨((l0.length : Int)), eqB, H', ⟨Nat.le_refl _⟩, ⟨by (with_reducible repeat (first | apply Kd.R_alloc | apply Kd.R_drewN | apply Kd.R_drew)); exact HO0.out⟩, ⟨by repeat (first | (with_reducible first | exact HK.out | apply Kept.alloc | apply Kept.drewN | apply Kept.drew) | exact HK.out)⟩, ⟨hbw⟩⟩
 case round =>
  clear H'
  try clear p2
  obtain ⟨x3_1, rfl, HA, HK1, HO_0, HK, HB⟩ := hrel
  cases gk with
  | zero => exact absurd HA.out (by simp [cuspref02_trim.l0])
  | succ k1 =>
   have H := HA.out
   clear HA
   simp only [cuspref02_trim.l0] at H
   by_cases c3 : x3_1 > 0
   ·rw [if_pos c3] at H
    have c3b0 := decide_eq_true c3
    clear c3
    obtain ⟨ji4, hji4⟩ : ∃ j_ : Int, (wrap64 (x3_1 - 1)) = j_ := ⟨_, rfl⟩
    first | rw [hji4] at H | simp only [hji4] at H ⊢
    have hji4w : (IntKind.i64.wrap (x3_1 - 1)) = ji4 := (i64_w _).trans hji4
    by_cases c5 : 0 ≤ (ji4)
    ·rw [if_pos c5] at H
     have c5b0 := decide_eq_true c5
     clear c5
     by_cases c6 : (ji4) < (l0.length : Int)
     ·rw [if_pos c6] at H
      have c6b0 := decide_eq_true c6
      clear c6
      by_cases c7 : (rd l0 (ji4)) = 0
      ·rw [if_pos c7] at H
       have c7b0 := beq_iff_eq.mpr c7
       have c7b1 := bne_eq_false_iff_eq.mpr c7
       clear c7
       have H' := asd H
       clear H
       have p258 : 0 ≤ ((ji4) : Int) := odt
       have q258 : (ji4) < (l0.length : Int) := odt
       obtain ⟨ad258, e258, hx258_0⟩ := Kd.at_int (Kd.R_reads' HO_0.out).2.2 (ji4) p258 q258
       cases e258
       replace p258 := eq_true p258
       replace q258 := eq_true q258
       go_wp2
       go_roundg k1
       case measure => have := HK1.out; omega
       case rel => exact ⟨(ji4), (by first | rfl | (simp; done) | (simp only [← hji4] <;> (first | rfl | simp)) | (simp [*]; done)), H', ⟨by have := HK1.out; omega⟩, ⟨by (with_reducible repeat (first | apply Kd.R_alloc | apply Kd.R_drewN | apply Kd.R_drew)); exact HO_0.out⟩, ⟨by repeat (first | (with_reducible first | exact HK.out | apply Kept.alloc | apply Kept.drewN | apply Kept.drew) | exact HK.out)⟩, ⟨hbw⟩⟩
      ·rw [if_neg c7] at H
       have c7b0 := beq_eq_false_iff_ne.mpr c7
       have c7b1 := bne_iff_ne.mpr c7
       by_cases c8 : 0 ≤ x3_1
       ·rw [if_pos c8] at H
        have c8b0 := eq_true c8
        have c8b1 := decide_eq_true c8
        clear c8
        by_cases c9 : x3_1 ≤ (l0.length : Int)
        ·rw [if_pos c9] at H
         have c9b0 := eq_true c9
         have c9b1 := decide_eq_true c9
         clear c9
         obtain ⟨y259, hy259⟩ : ∃ y_ : List Int, y_ = (l0.take (x3_1 : Int).toNat) := ⟨_, rfl⟩
         try rw [Option.bind_some] at H
         try rw [← hy259] at H
         have Ny259 := asd hy259
         clear hy259
         obtain rfl := Option.some.inj H
         have p258 : 0 ≤ ((ji4) : Int) := odt
         have q258 : (ji4) < (l0.length : Int) := odt
         obtain ⟨ad258, e258, hx258_0⟩ := Kd.at_int (Kd.R_reads' HO_0.out).2.2 (ji4) p258 q258
         cases e258
         replace p258 := eq_true p258
         replace q258 := eq_true q258
         have q10 : (x3_1 : Int) ≤ ((l0.length : Int) : Int) := odt
         obtain ⟨i010, hi010, _, hsz10, _⟩ := info_parts info83
         have hcut10 := cut_to (P := Tryz.prog) 39 83 .i64 Tryz.underlying39 hi010 (some ad258) l0.length co2 x3_1 (odt) q10 (Kd.R_reads' HO_0.out).2.1
         have hr10 := Kd.R_take (m := (x3_1 : Int).toNat) HO_0.out (by omega)
         have hy10 : y259.length = (x3_1 : Int).toNat := (by rw [Ny259.out, List.length_take]; omega)
         rw [← Ny259.out] at hr10
         rw [← hy10] at hr10 hcut10
         clear hy10 hi010 hsz10 HO_0
         have HO261 := asd hr10
         clear hr10
         replace q10 := eq_true q10
         go_wp2
         go_ret
         exact ⟨_, by first | rfl | (simp [errW_none, errW_some] <;> rfl) | (simp only [← hji4]; first | rfl | (simp [errW_none, errW_some] <;> rfl)) | (simp [*, errW_none, errW_some] <;> rfl), by (with_reducible repeat (first | apply Kd.R_alloc | apply Kd.R_drewN | apply Kd.R_drew)); exact HO261.out, hbw, by repeat (first | (with_reducible first | exact HK.out | apply Kept.alloc | apply Kept.drewN | apply Kept.drew) | exact HK.out)⟩
        ·rw [if_neg c9] at H
         exact absurd H (by simp)
       ·rw [if_neg c8] at H
        exact absurd H (by simp)
     ·rw [if_neg c6] at H
      exact absurd H (by simp)
    ·rw [if_neg c5] at H
     exact absurd H (by simp)
   ·rw [if_neg c3] at H
    have c3b0 := decide_eq_false c3
    clear c3
    by_cases c11 : 0 ≤ x3_1
    ·rw [if_pos c11] at H
     have c11b0 := eq_true c11
     have c11b1 := decide_eq_true c11
     clear c11
     by_cases c12 : x3_1 ≤ (l0.length : Int)
     ·rw [if_pos c12] at H
      have c12b0 := eq_true c12
      have c12b1 := decide_eq_true c12
      clear c12
      obtain ⟨y262, hy262⟩ : ∃ y_ : List Int, y_ = (l0.take (x3_1 : Int).toNat) := ⟨_, rfl⟩
      try rw [Option.bind_some] at H
      try rw [← hy262] at H
      have Ny262 := asd hy262
      clear hy262
      obtain rfl := Option.some.inj H
      have q13 : (x3_1 : Int) ≤ ((l0.length : Int) : Int) := odt
      obtain ⟨i013, hi013, _, hsz13, _⟩ := info_parts info83
      have hcut13 := cut_to (P := Tryz.prog) 39 83 .i64 Tryz.underlying39 hi013 Ao2 l0.length co2 x3_1 (odt) q13 (Kd.R_reads' HO_0.out).2.1
      have hr13 := Kd.R_take (m := (x3_1 : Int).toNat) HO_0.out (by omega)
      have hy13 : y262.length = (x3_1 : Int).toNat := (by rw [Ny262.out, List.length_take]; omega)
      rw [← Ny262.out] at hr13
      rw [← hy13] at hr13 hcut13
      clear hy13 hi013 hsz13 HO_0
      have HO264 := asd hr13
      clear hr13
      replace q13 := eq_true q13
      go_wp2
      go_ret
      exact ⟨_, eqC, by (with_reducible repeat (first | apply Kd.R_alloc | apply Kd.R_drewN | apply Kd.R_drew)); exact HO264.out, hbw, by repeat (first | (with_reducible first | exact HK.out | apply Kept.alloc | apply Kept.drewN | apply Kept.drew) | exact HK.out)⟩
     ·rw [if_neg c12] at H
      exact absurd H (by simp)
    ·rw [if_neg c11] at H
     exact absurd H (by simp)
def cuspref02_up.l0 : Nat → List Int → List Int → Int → Int → Int → Option (List Int)
 | 0, _, _, _, _, _ => none
 | k + 1, x0, x5, x6, x7, x8 => if x8 < (x0.length : Int) then (if 0 ≤ x8 then (if 0 ≤ x6 then (if x5.length < 35184372088832 then (cuspref02_up.l0 k x0 (x5 ++ [(Go.bits .or .u64 (shl .u64 (IntKind.u64.wrap (rd x0 x8)) x6) (IntKind.u64.wrap (x7))) % 4294967296]) x6 (((Go.bits .or .u64 (shl .u64 (IntKind.u64.wrap (rd x0 x8)) x6) (IntKind.u64.wrap (x7))) / 4294967296) % 4294967296) (wrap64 (x8 + 1))) else (none)) else (none)) else (none)) else (if x5.length < 35184372088832 then ((cuspref02_trim.f k (x5 ++ [x7])).bind fun t275 => (some t275)) else (none))
def cuspref02_up.f (k : Nat) (l0 : List Int) (a1 : Int) : Option (List Int) := if (l0.length : Int) = 0 then (some ([] : List Int)) else (if 0 ≤ (wrap64 (Int.tdiv a1 32)) then (if (wrap64 (Int.tdiv a1 32) : Int).toNat ≤ 70368744177664 then (cuspref02_up.l0 k l0 (List.replicate (wrap64 (Int.tdiv a1 32) : Int).toNat 0) (IntKind.u64.wrap (Int.tmod a1 32)) 0 0) else (none)) else (none))
theorem cuspref02_up.calls (k : Nat) (A0 : Option Addr) (c0 : Nat) (l0 : List Int) (a1 : Int) (r : List Int) (w : World) (hr0 : Kd.C (Kd.int .u32) w A0 l0.length l0) (hc0 : l0.length ≤ c0) (h : cuspref02_up.f k l0 a1 = some r) :
  Calls Tryz.prog 64 #[.slice A0 l0.length c0, .int .i64 a1] w fun e w' => ∃ v0_ : Value, e = .returned (v0_) ∧ Kd.R (Kd.int .u32) 83 w' w.heap.size (fun _ => True) v0_ r ∧ Below w.heap.size w w' := by
 have HR0 := asd hr0
 have HC0 := asd hc0
 clear hr0 hc0
 have HB := asd (Below.refl w.heap.size w)
 have H := h
 clear h
 unfold cuspref02_up.f at H
 by_cases c3 : (l0.length : Int) = 0
 ·rw [if_pos c3] at H
  have c3b0 := beq_iff_eq.mpr c3
  have c3b1 := bne_eq_false_iff_eq.mpr c3
  clear c3
  obtain rfl := Option.some.inj H
  go_enter Tryz.func64, Tryz.ntmps64
  go_wp2
  go_ret
  exact ⟨_, eqC, by first | exact Kd.R_nil _ _ _ _ _ | exact Kd.N_nil _ _ _ _ _ | exact Kd.V_nil _ _ _ _ _ | exact Kd.Q_nil _ _ _ _ _ | exact Kd.S_nil _ _ _ _ _, hbw⟩
 ·rw [if_neg c3] at H
  have c3b0 := beq_eq_false_iff_ne.mpr c3
  have c3b1 := bne_iff_ne.mpr c3
  have c3b2 : ¬ (l0 = []) := fun h_ => c3 (by rw [h_]; rfl)
  obtain ⟨ji4, hji4⟩ : ∃ j_ : Int, (wrap64 (Int.tdiv a1 32)) = j_ := ⟨_, rfl⟩
  first | rw [hji4] at H | simp only [hji4] at H ⊢
  have hji4w : (IntKind.i64.wrap (Int.tdiv a1 32)) = ji4 := (i64_w _).trans hji4
  by_cases c5 : 0 ≤ (ji4)
  ·rw [if_pos c5] at H
   have c5b0 := eq_true c5
   have c5b1 := decide_eq_true c5
   clear c5
   by_cases c6 : (ji4 : Int).toNat ≤ 70368744177664
   ·rw [if_pos c6] at H
    have c6b0 := eq_true c6
    have c6b1 := decide_eq_true c6
    clear c6
    obtain ⟨y265, hy265⟩ : ∃ y_ : List Int, y_ = (List.replicate (ji4 : Int).toNat 0) := ⟨_, rfl⟩
    try rw [Option.bind_some] at H
    try rw [← hy265] at H
    have Ny265 := asd hy265
    clear hy265
    have H' := asd H
    clear H
    go_enter Tryz.func64, Tryz.ntmps64
    go_wp2_with (first | ((with_reducible refine gate_dst (N := 15) rfl ?_); refine Kd.R_make (Kd.int .u32) _ 83 rfl (N := 15) rfl 39 _ _ rfl ji4 rfl rfl Tryz.underlying39 (.int .u32 0) 4 info83 rfl (by decide) (by omega) 0 (ok := fun _ => True) (okp := fun _ => True) rfl (fun _ hk => hk) trivial (odt) (Nat.le_trans (Nat.mul_le_mul_right _ (odt : ji4.toNat ≤ 70368744177664)) (by omega)) (Below.refl _ _) (Nat.le_refl _) ?_; intro v266 w7 ho8 hb hg_ hnew_; clear hg_ hnew_; (first | rw [← Ny265.out] at ho8 | (simp only [Int.reduceToNat] at ho8; rw [← Ny265.out] at ho8)); have n0_ := asd (Kd.R_lower ho8 (below_size hbw)); have n1_ := asd (below_step hbw hb); clear HB; have HO267 := n0_; have HB := n1_; clear n0_ n1_; clear hb ho8))
    go_loopg [5, 7, 8] k (fun kq v5 v7 v8 w' => ∃ (x5_1 : List Int) (x7_1 : Int) (x8_1 : Int), v7 = .int .u32 x7_1 ∧ v8 = .int .i64 x8_1 ∧ Aside0 (cuspref02_up.l0 kq l0 x5_1 (IntKind.u64.wrap (Int.tmod a1 32)) x7_1 x8_1 = some r) ∧ Aside0 (kq ≤ k) ∧ Aside0 (Kd.R (Kd.int .u32) 83 w' w.heap.size (fun _ => True) v5 x5_1) ∧ Aside0 (Below w.heap.size w w'))
    case atStart => exact ⟨(y265), (0), (0), eqB, eqB, H', ⟨Nat.le_refl _⟩, ⟨by (with_reducible repeat (first | apply Kd.R_alloc | apply Kd.R_drewN | apply Kd.R_drew)); exact HO267.out⟩, ⟨hbw⟩⟩
    case round =>
     clear H'
     try clear p2
     try clear c3
     try clear c3b0
     try clear c3b1
     try clear c3b2
     try clear c5
     try clear c5b0
     try clear c5b1
     try clear c6
     try clear c6b0
     try clear c6b1
     try clear p6
     obtain ⟨x5_1, x7_1, x8_1, rfl, rfl, HA, HK1, HO_5, HB⟩ := hrel
     cases gk with
     | zero => exact absurd HA.out (by simp [cuspref02_up.l0])
     | succ k1 =>
      have H := HA.out
      clear HA
      simp only [cuspref02_up.l0] at H
      by_cases c9 : x8_1 < (l0.length : Int)
      ·rw [if_pos c9] at H
       have c9b0 := decide_eq_true c9
       clear c9
       by_cases c10 : 0 ≤ x8_1
       ·rw [if_pos c10] at H
        have c10b0 := decide_eq_true c10
        clear c10
        obtain ⟨ji11, hji11⟩ : ∃ j_ : Int, (IntKind.u64.wrap (Int.tmod a1 32)) = j_ := ⟨_, rfl⟩
        first | rw [hji11] at H | simp only [hji11] at H ⊢
        by_cases c12 : 0 ≤ (ji11)
        ·rw [if_pos c12] at H
         have c12b0 := eq_true c12
         have c12b1 := decide_eq_true c12
         clear c12
         obtain ⟨ji13, hji13⟩ : ∃ j_ : Int, (shl .u64 (IntKind.u64.wrap (rd l0 x8_1)) (ji11)) = j_ := ⟨_, rfl⟩
         first | rw [hji13] at H | simp only [hji13] at H ⊢
         have hji13_ : (IntKind.u64.wrap ((IntKind.u64.wrap (rd l0 x8_1)) * 2 ^ min (ji11).toNat 64)) = ji13 := hji13
         have hji13z : (ji11) ≤ 64 → (IntKind.u64.wrap ((IntKind.u64.wrap (rd l0 x8_1)) * 2 ^ (ji11).toNat)) = ji13 := shl_small hji13
         by_cases c14 : x5_1.length < 35184372088832
         ·rw [if_pos c14] at H
          have LMc14 := asd c14
          clear c14
          obtain ⟨y269, hy269⟩ : ∃ y_ : List Int, y_ = (x5_1 ++ [(Go.bits .or .u64 (ji13) (IntKind.u64.wrap (x7_1))) % 4294967296]) := ⟨_, rfl⟩
          try rw [Option.bind_some] at H
          try rw [← hy269] at H
          have Ny269 := asd hy269
          clear hy269
          have H' := asd H
          clear H
          have p268 : 0 ≤ (x8_1 : Int) := odt
          have q268 : x8_1 < (l0.length : Int) := odt
          obtain ⟨ad268, e268, hx268_0⟩ := Kd.at_int HR0.out x8_1 p268 q268
          cases e268
          replace hx268_0 := (HB.out.cell (World.block_lt_of_cell? w _ hx268_0)).trans hx268_0
          replace p268 := eq_true p268
          replace q268 := eq_true q268
          go_wp2_with (first | ((with_reducible refine gate_builtin (b := .append) (xs := #[.tmp 35, .tmp 38]) rfl ?_); at_builtin; refine Kd.R_append (Kd.int .u32) (w0 := w) w.heap.size rfl (.tmp 35) (.tmp 38) 39 83 (.int .u32 0) 4 rfl Tryz.underlying39 info83 rfl (by decide) (by omega) u5 x5_1 ((Go.bits .or .u64 (ji13) (IntKind.u64.wrap (x7_1))) % 4294967296) [.int .u32 ((Go.bits .or .u64 (ji13) (IntKind.u64.wrap (x7_1))) % 4294967296)] (fun _ => True) (fun _ => False) rfl rfl ?aP (fun _ hk => hk.elim) ?aF ?aO ?aB ?aS ?aL ?_; (case aP => exact rfl); (case aB => exact hbw); (case aF => exact (fun _ _ => trivial)); (case aO => exact (rUp HO_5.out)); (case aS => exact (below_size hbw)); (case aL => have := LMc14.out; omega); intro v270 w15 ho hb hg hat; rw [← Ny269.out] at ho; have n0_ := asd (hb); have n1_ := asd (ho); clear HB; clear HO_5; have HB := n0_; have HO271 := n1_; clear n0_ n1_; clear ho hb hg hat))
          subst hji11
          go_roundg k1
          case measure => have := HK1.out; omega
          case rel => exact ⟨(y269), (((Go.bits .or .u64 (ji13) (IntKind.u64.wrap (x7_1))) / 4294967296) % 4294967296), (wrap64 (x8_1 + 1)), (by first | rfl | (simp; done) | (simp only [← hji13] <;> (first | rfl | simp)) | (simp [*]; done)), eqB, H', ⟨by have := HK1.out; omega⟩, ⟨by (with_reducible repeat (first | apply Kd.R_alloc | apply Kd.R_drewN | apply Kd.R_drew)); exact HO271.out⟩, ⟨hbw⟩⟩
         ·rw [if_neg c14] at H
          exact absurd H (by simp)
        ·rw [if_neg c12] at H
         exact absurd H (by simp)
       ·rw [if_neg c10] at H
        exact absurd H (by simp)
      ·rw [if_neg c9] at H
       have c9b0 := decide_eq_false c9
       clear c9
       by_cases c16 : x5_1.length < 35184372088832
       ·rw [if_pos c16] at H
        have LMc16 := asd c16
        clear c16
        obtain ⟨y272, hy272⟩ : ∃ y_ : List Int, y_ = (x5_1 ++ [x7_1]) := ⟨_, rfl⟩
        try rw [Option.bind_some] at H
        try rw [← hy272] at H
        have Ny272 := asd hy272
        clear hy272
        replace H := Option.bind_eq_some_iff.mp H
        obtain ⟨t275, A170, H⟩ := H
        have A17 := asd A170
        clear A170
        obtain rfl := Option.some.inj H
        go_wp2_with (first | ((with_reducible refine gate_builtin (b := .append) (xs := #[.tmp 43, .tmp 45]) rfl ?_); at_builtin; refine Kd.R_append (Kd.int .u32) (w0 := w) w.heap.size rfl (.tmp 43) (.tmp 45) 39 83 (.int .u32 0) 4 rfl Tryz.underlying39 info83 rfl (by decide) (by omega) u5 x5_1 x7_1 [.int .u32 x7_1] (fun _ => True) (fun _ => False) rfl rfl ?aP (fun _ hk => hk.elim) ?aF ?aO ?aB ?aS ?aL ?_; (case aP => exact rfl); (case aB => exact hbw); (case aF => exact (fun _ _ => trivial)); (case aO => exact (rUp HO_5.out)); (case aS => exact (below_size hbw)); (case aL => have := LMc16.out; omega); intro v273 w18 ho hb hg hat; rw [← Ny272.out] at ho; have n0_ := asd (hb); have n1_ := asd (ho); clear HB; clear HO_5; have HB := n0_; have HO274 := n1_; clear n0_ n1_; clear ho hb hg hat; obtain ⟨Ao19, co19, eo19⟩ := Kd.R_slice HO274.out; subst eo19) | ((with_reducible refine gate_callee (f := 99) rfl ?_); refine goesL_ (some 47) rfl rfl Tryz.func99 (by kernel_rfl) rfl #[.slice Ao19 y272.length co19] rfl eqA ?_; (with_reducible refine (cuspref02_trim.calls k1 (fun k_ => some k_ = (.slice Ao19 y272.length co19 : Value).ownBlock) (.slice Ao19 y272.length co19) y272 t275 w _ ?side1 ?side2 A17.out).mono ?_); (case side1 => repeat (first | (with_reducible first | exact HB.out | apply below_alloc | apply pw_below_drewN | apply below_drew1) | exact HB.out)); (case side2 => exact Kd.R_tight rfl HO274.out); rintro e w20 ⟨v276, rfl, ho0, hb, hkp⟩; refine ⟨_, rfl, ?_⟩; have n0_ := asd (Kd.R_mono (ok' := fun k_ => True) ho0 (fun k_ hk_ => trivial)); have n1_ := asd (hb); clear HB; clear HO274; have HO277 := n0_; have HB := n1_; clear n0_ n1_; (try clear hb); (try clear hkp); (try clear ho0)))
        go_ret
        exact ⟨_, by first | rfl | (simp [errW_none, errW_some] <;> rfl) | (simp only [← hji4]; first | rfl | (simp [errW_none, errW_some] <;> rfl)) | (simp [*, errW_none, errW_some] <;> rfl), by (with_reducible repeat (first | apply Kd.R_alloc | apply Kd.R_drewN | apply Kd.R_drew)); exact HO277.out, hbw⟩
       ·rw [if_neg c16] at H
        exact absurd H (by simp)
   ·rw [if_neg c6] at H
    exact absurd H (by simp)
  ·rw [if_neg c5] at H
   exact absurd H (by simp)
def cuspref02_small.f (l0 : List Int) : Option (Int) := if (l0.length : Int) > 1 then (if 1 < (l0.length : Int) then (if (l0.length : Int) > 0 then (if 0 < (l0.length : Int) then (some (Go.bits .or .u64 (IntKind.u64.wrap ((IntKind.u64.wrap (rd l0 1)) * 4294967296)) (IntKind.u64.wrap (rd l0 0)))) else (none)) else (some (IntKind.u64.wrap ((IntKind.u64.wrap (rd l0 1)) * 4294967296)))) else (none)) else (if (l0.length : Int) > 0 then (if 0 < (l0.length : Int) then (some (Go.bits .or .u64 0 (IntKind.u64.wrap (rd l0 0)))) else (none)) else (some 0))
end Go.Proofs.YthmeocigliephaaGreatDoor.PSu
end
section
namespace Go.Proofs.YthmeocigliephaaGreatDoor.PSu
attribute [local go_sem] f64bits_run f64from_run run_float_some max2_int min2_int max_two min_two max_three min_three max_four min_four
def cuspref02_order.l0 : Nat → List Int → List Int → Int → Option (Int)
 | 0, _, _, _ => none
 | k + 1, x0, x1, x5 => if x5 ≥ 0 then (if 0 ≤ x5 then (if x5 < (x0.length : Int) then (if x5 < (x1.length : Int) then (if (rd x0 x5) = (rd x1 x5) then (cuspref02_order.l0 k x0 x1 (wrap64 (x5 - 1))) else (if (rd x0 x5) < (rd x1 x5) then (some (-1)) else (some 1))) else (none)) else (none)) else (none)) else (some 0)
def cuspref02_order.f (k : Nat) (l0 : List Int) (l1 : List Int) : Option (Int) := if (l0.length : Int) = (l1.length : Int) then (cuspref02_order.l0 k l0 l1 (wrap64 ((l0.length : Int) - 1))) else (if (l0.length : Int) < (l1.length : Int) then (some (-1)) else (some 1))
theorem cuspref02_order.calls (k : Nat) (A0 : Option Addr) (c0 : Nat) (l0 : List Int) (A1 : Option Addr) (c1 : Nat) (l1 : List Int) (r : Int) (w : World) (hr0 : Kd.C (Kd.int .u32) w A0 l0.length l0) (hc0 : l0.length ≤ c0) (hr1 : Kd.C (Kd.int .u32) w A1 l1.length l1) (hc1 : l1.length ≤ c1) (h : cuspref02_order.f k l0 l1 = some r) :
  Calls Tryz.prog 67 #[.slice A0 l0.length c0, .slice A1 l1.length c1] w fun e w' => e = .returned (.int .i64 r) ∧ Drawn0 w w' := by
 have HR0 := asd hr0
 have HC0 := asd hc0
 clear hr0 hc0
 have HR1 := asd hr1
 have HC1 := asd hc1
 clear hr1 hc1
 have H := h
 clear h
 unfold cuspref02_order.f at H
 by_cases c3 : (l0.length : Int) = (l1.length : Int)
 ·rw [if_pos c3] at H
  have c3b0 := beq_iff_eq.mpr c3
  have c3b1 := bne_eq_false_iff_eq.mpr c3
  have c3b2 : (l0.length == l1.length) = true := by first | simpa using c3 | (simp at c3 ⊢; omega)
  clear c3
  have H' := asd H
  clear H
  go_enter Tryz.func67, Tryz.ntmps67
  go_wp2
  repeat (go_quiet (fail); try go_wp2)
  go_loopg [5] k (fun kq v5 w' => ∃ (x5_1 : Int), v5 = .int .i64 x5_1 ∧ Aside0 (cuspref02_order.l0 kq l0 l1 x5_1 = some r) ∧ Aside0 (kq ≤ k) ∧ Drawn0 w w')
  case atStart => exact ⟨(wrap64 ((l0.length : Int) - 1)), eqB, H', ⟨Nat.le_refl _⟩, dn0⟩
  case round =>
   clear H'
   try clear c1
   try clear p2
   try clear c3
   try clear c3b0
   try clear c3b1
   try clear c3b2
   obtain ⟨x5_1, rfl, HA, HK1, ⟨m1, rfl⟩⟩ := hrel
   cases gk with
   | zero => exact absurd HA.out (by simp [cuspref02_order.l0])
   | succ k1 =>
    have H := HA.out
    clear HA
    simp only [cuspref02_order.l0] at H
    by_cases c4 : x5_1 ≥ 0
    ·rw [if_pos c4] at H
     have c4b0 := decide_eq_true c4
     clear c4
     by_cases c5 : 0 ≤ x5_1
     ·rw [if_pos c5] at H
      have c5b0 := decide_eq_true c5
      clear c5
      by_cases c6 : x5_1 < (l0.length : Int)
      ·rw [if_pos c6] at H
       have c6b0 := decide_eq_true c6
       clear c6
       by_cases c7 : x5_1 < (l1.length : Int)
       ·rw [if_pos c7] at H
        have c7b0 := decide_eq_true c7
        clear c7
        by_cases c8 : (rd l0 x5_1) = (rd l1 x5_1)
        ·rw [if_pos c8] at H
         have c8b0 := beq_iff_eq.mpr c8
         have c8b1 := bne_eq_false_iff_eq.mpr c8
         clear c8
         have H' := asd H
         clear H
         have p342 : 0 ≤ (x5_1 : Int) := odt
         have q342 : x5_1 < (l0.length : Int) := odt
         obtain ⟨ad342, e342, hx342_0⟩ := Kd.at_int HR0.out x5_1 p342 q342
         cases e342
         replace p342 := eq_true p342
         replace q342 := eq_true q342
         have p343 : 0 ≤ (x5_1 : Int) := odt
         have q343 : x5_1 < (l1.length : Int) := odt
         obtain ⟨ad343, e343, hx343_0⟩ := Kd.at_int HR1.out x5_1 p343 q343
         cases e343
         replace p343 := eq_true p343
         replace q343 := eq_true q343
         go_wp2
         repeat (go_quiet (fail); try go_wp2)
         go_roundg k1
         case measure => have := HK1.out; omega
         case rel => exact ⟨(wrap64 (x5_1 - 1)), eqB, H', ⟨by have := HK1.out; omega⟩, dn0⟩
        ·rw [if_neg c8] at H
         have c8b0 := beq_eq_false_iff_ne.mpr c8
         have c8b1 := bne_iff_ne.mpr c8
         by_cases c9 : (rd l0 x5_1) < (rd l1 x5_1)
         ·rw [if_pos c9] at H
          have c9b0 := decide_eq_true c9
          clear c9
          obtain rfl := Option.some.inj H
          have p342 : 0 ≤ (x5_1 : Int) := odt
          have q342 : x5_1 < (l0.length : Int) := odt
          obtain ⟨ad342, e342, hx342_0⟩ := Kd.at_int HR0.out x5_1 p342 q342
          cases e342
          replace p342 := eq_true p342
          replace q342 := eq_true q342
          have p343 : 0 ≤ (x5_1 : Int) := odt
          have q343 : x5_1 < (l1.length : Int) := odt
          obtain ⟨ad343, e343, hx343_0⟩ := Kd.at_int HR1.out x5_1 p343 q343
          cases e343
          replace p343 := eq_true p343
          replace q343 := eq_true q343
          have p344 : 0 ≤ (x5_1 : Int) := odt
          have q344 : x5_1 < (l0.length : Int) := odt
          obtain ⟨ad344, e344, hx344_0⟩ := Kd.at_int HR0.out x5_1 p344 q344
          obtain rfl : ad342 = ad344 := (by injection e344)
          replace p344 := eq_true p344
          replace q344 := eq_true q344
          have p345 : 0 ≤ (x5_1 : Int) := odt
          have q345 : x5_1 < (l1.length : Int) := odt
          obtain ⟨ad345, e345, hx345_0⟩ := Kd.at_int HR1.out x5_1 p345 q345
          obtain rfl : ad343 = ad345 := (by injection e345)
          replace p345 := eq_true p345
          replace q345 := eq_true q345
          go_wp2
          repeat (go_quiet (fail); try go_wp2)
          go_ret
          exact ⟨eqB, dn0⟩
         ·rw [if_neg c9] at H
          have c9b0 := decide_eq_false c9
          clear c9
          obtain rfl := Option.some.inj H
          have p342 : 0 ≤ (x5_1 : Int) := odt
          have q342 : x5_1 < (l0.length : Int) := odt
          obtain ⟨ad342, e342, hx342_0⟩ := Kd.at_int HR0.out x5_1 p342 q342
          cases e342
          replace p342 := eq_true p342
          replace q342 := eq_true q342
          have p343 : 0 ≤ (x5_1 : Int) := odt
          have q343 : x5_1 < (l1.length : Int) := odt
          obtain ⟨ad343, e343, hx343_0⟩ := Kd.at_int HR1.out x5_1 p343 q343
          cases e343
          replace p343 := eq_true p343
          replace q343 := eq_true q343
          have p344 : 0 ≤ (x5_1 : Int) := odt
          have q344 : x5_1 < (l0.length : Int) := odt
          obtain ⟨ad344, e344, hx344_0⟩ := Kd.at_int HR0.out x5_1 p344 q344
          obtain rfl : ad342 = ad344 := (by injection e344)
          replace p344 := eq_true p344
          replace q344 := eq_true q344
          have p345 : 0 ≤ (x5_1 : Int) := odt
          have q345 : x5_1 < (l1.length : Int) := odt
          obtain ⟨ad345, e345, hx345_0⟩ := Kd.at_int HR1.out x5_1 p345 q345
          obtain rfl : ad343 = ad345 := (by injection e345)
          replace p345 := eq_true p345
          replace q345 := eq_true q345
          go_wp2
          repeat (go_quiet (fail); try go_wp2)
          go_ret
          exact ⟨eqB, dn0⟩
       ·rw [if_neg c7] at H
        exact absurd H (by simp)
      ·rw [if_neg c6] at H
       exact absurd H (by simp)
     ·rw [if_neg c5] at H
      exact absurd H (by simp)
    ·rw [if_neg c4] at H
     have c4b0 := decide_eq_false c4
     clear c4
     obtain rfl := Option.some.inj H
     go_wp2
     repeat (go_quiet (fail); try go_wp2)
     go_ret
     exact ⟨eqB, dn0⟩
 ·rw [if_neg c3] at H
  have c3b0 := beq_eq_false_iff_ne.mpr c3
  have c3b1 := bne_iff_ne.mpr c3
  have c3b2 : (l0.length == l1.length) = false := by first | simpa using c3 | (simp at c3 ⊢; omega)
  by_cases c10 : (l0.length : Int) < (l1.length : Int)
  ·rw [if_pos c10] at H
   have c10b0 := decide_eq_true c10
   have c10b1 : decide (l0.length < l1.length) = true := decide_eq_true (Int.ofNat_lt.mp c10)
   clear c10
   obtain rfl := Option.some.inj H
   go_enter Tryz.func67, Tryz.ntmps67
   go_wp2
   repeat (go_quiet (fail); try go_wp2)
   go_ret
   exact ⟨eqB, dn0⟩
  ·rw [if_neg c10] at H
   have c10b0 := decide_eq_false c10
   have c10b1 : decide (l0.length < l1.length) = false := decide_eq_false (fun h => c10 (Int.ofNat_lt.mpr h))
   clear c10
   obtain rfl := Option.some.inj H
   go_enter Tryz.func67, Tryz.ntmps67
   go_wp2
   repeat (go_quiet (fail); try go_wp2)
   go_ret
   exact ⟨eqB, dn0⟩
def cuspref02_less.l0 : Nat → List Int → List Int → List Int → Int → Int → Option (List Int)
 | 0, _, _, _, _, _ => none
 | k + 1, x0, x1, x5, x6, x7 => if x7 < (x0.length : Int) then (if 0 ≤ x7 then (if x7 < (x1.length : Int) then (if x5.length < 35184372088832 then (cuspref02_less.l0 k x0 x1 (x5 ++ [(IntKind.u64.wrap ((IntKind.u64.wrap ((IntKind.u64.wrap (rd x0 x7)) - x6)) - (IntKind.u64.wrap (rd x1 x7)))) % 4294967296]) ((IntKind.u64.wrap ((IntKind.u64.wrap ((IntKind.u64.wrap (rd x0 x7)) - x6)) - (IntKind.u64.wrap (rd x1 x7)))) / 9223372036854775808) (wrap64 (x7 + 1))) else (none)) else (if x5.length < 35184372088832 then (cuspref02_less.l0 k x0 x1 (x5 ++ [(IntKind.u64.wrap ((IntKind.u64.wrap (rd x0 x7)) - x6)) % 4294967296]) ((IntKind.u64.wrap ((IntKind.u64.wrap (rd x0 x7)) - x6)) / 9223372036854775808) (wrap64 (x7 + 1))) else (none))) else (none)) else ((cuspref02_trim.f k x5).bind fun t354 => (some t354))
def cuspref02_less.f (k : Nat) (l0 : List Int) (l1 : List Int) : Option (List Int) := cuspref02_less.l0 k l0 l1 ([] : List Int) 0 0
theorem cuspref02_less.calls (k : Nat) (A0 : Option Addr) (c0 : Nat) (l0 : List Int) (A1 : Option Addr) (c1 : Nat) (l1 : List Int) (r : List Int) (w : World) (hr0 : Kd.C (Kd.int .u32) w A0 l0.length l0) (hc0 : l0.length ≤ c0) (hr1 : Kd.C (Kd.int .u32) w A1 l1.length l1) (hc1 : l1.length ≤ c1) (h : cuspref02_less.f k l0 l1 = some r) :
  Calls Tryz.prog 68 #[.slice A0 l0.length c0, .slice A1 l1.length c1] w fun e w' => ∃ v0_ : Value, e = .returned (v0_) ∧ Kd.R (Kd.int .u32) 83 w' w.heap.size (fun _ => True) v0_ r ∧ Below w.heap.size w w' := by
 have HR0 := asd hr0
 have HC0 := asd hc0
 clear hr0 hc0
 have HR1 := asd hr1
 have HC1 := asd hc1
 clear hr1 hc1
 have HB := asd (Below.refl w.heap.size w)
 have H := h
 clear h
 unfold cuspref02_less.f at H
 have H' := asd H
 clear H
 go_enter Tryz.func68, Tryz.ntmps68
 go_wp2
 go_loopg [5, 6, 7] k (fun kq v5 v6 v7 w' => ∃ (x5_1 : List Int) (x6_1 : Int) (x7_1 : Int), v6 = .int .u64 x6_1 ∧ v7 = .int .i64 x7_1 ∧ Aside0 (cuspref02_less.l0 kq l0 l1 x5_1 x6_1 x7_1 = some r) ∧ Aside0 (kq ≤ k) ∧ Aside0 (Kd.R (Kd.int .u32) 83 w' w.heap.size (fun _ => True) v5 x5_1) ∧ Aside0 (Below w.heap.size w w'))
 case atStart => exact ⟨(([] : List Int)), (0), (0), eqB, eqB, H', ⟨Nat.le_refl _⟩, ⟨by first | exact Kd.R_nil _ _ _ _ _ | exact Kd.N_nil _ _ _ _ _ | exact Kd.V_nil _ _ _ _ _ | exact Kd.Q_nil _ _ _ _ _ | exact Kd.S_nil _ _ _ _ _⟩, ⟨hbw⟩⟩
 case round =>
  clear H'
  try clear c1
  try clear p2
  obtain ⟨x5_1, x6_1, x7_1, rfl, rfl, HA, HK1, HO_5, HB⟩ := hrel
  cases gk with
  | zero => exact absurd HA.out (by simp [cuspref02_less.l0])
  | succ k1 =>
   have H := HA.out
   clear HA
   simp only [cuspref02_less.l0] at H
   by_cases c3 : x7_1 < (l0.length : Int)
   ·rw [if_pos c3] at H
    have c3b0 := decide_eq_true c3
    clear c3
    by_cases c4 : 0 ≤ x7_1
    ·rw [if_pos c4] at H
     have c4b0 := decide_eq_true c4
     clear c4
     by_cases c5 : x7_1 < (l1.length : Int)
     ·rw [if_pos c5] at H
      have c5b0 := decide_eq_true c5
      clear c5
      by_cases c6 : x5_1.length < 35184372088832
      ·rw [if_pos c6] at H
       have LMc6 := asd c6
       clear c6
       obtain ⟨y348, hy348⟩ : ∃ y_ : List Int, y_ = (x5_1 ++ [(IntKind.u64.wrap ((IntKind.u64.wrap ((IntKind.u64.wrap (rd l0 x7_1)) - x6_1)) - (IntKind.u64.wrap (rd l1 x7_1)))) % 4294967296]) := ⟨_, rfl⟩
       try rw [Option.bind_some] at H
       try rw [← hy348] at H
       have Ny348 := asd hy348
       clear hy348
       have H' := asd H
       clear H
       have p346 : 0 ≤ (x7_1 : Int) := odt
       have q346 : x7_1 < (l0.length : Int) := odt
       obtain ⟨ad346, e346, hx346_0⟩ := Kd.at_int HR0.out x7_1 p346 q346
       cases e346
       replace hx346_0 := (HB.out.cell (World.block_lt_of_cell? w _ hx346_0)).trans hx346_0
       replace p346 := eq_true p346
       replace q346 := eq_true q346
       have p347 : 0 ≤ (x7_1 : Int) := odt
       have q347 : x7_1 < (l1.length : Int) := odt
       obtain ⟨ad347, e347, hx347_0⟩ := Kd.at_int HR1.out x7_1 p347 q347
       cases e347
       replace hx347_0 := (HB.out.cell (World.block_lt_of_cell? w _ hx347_0)).trans hx347_0
       replace p347 := eq_true p347
       replace q347 := eq_true q347
       go_wp2_with (first | ((with_reducible refine gate_builtin (b := .append) (xs := #[.tmp 33, .tmp 36]) rfl ?_); at_builtin; refine Kd.R_append (Kd.int .u32) (w0 := w) w.heap.size rfl (.tmp 33) (.tmp 36) 39 83 (.int .u32 0) 4 rfl Tryz.underlying39 info83 rfl (by decide) (by omega) u5 x5_1 ((IntKind.u64.wrap ((IntKind.u64.wrap ((IntKind.u64.wrap (rd l0 x7_1)) - x6_1)) - (IntKind.u64.wrap (rd l1 x7_1)))) % 4294967296) [.int .u32 ((IntKind.u64.wrap ((IntKind.u64.wrap ((IntKind.u64.wrap (rd l0 x7_1)) - x6_1)) - (IntKind.u64.wrap (rd l1 x7_1)))) % 4294967296)] (fun _ => True) (fun _ => False) rfl rfl ?aP (fun _ hk => hk.elim) ?aF ?aO ?aB ?aS ?aL ?_; (case aP => exact rfl); (case aB => exact hbw); (case aF => exact (fun _ _ => trivial)); (case aO => exact (rUp HO_5.out)); (case aS => exact (below_size hbw)); (case aL => have := LMc6.out; omega); intro v349 w7 ho hb hg hat; rw [← Ny348.out] at ho; have n0_ := asd (hb); have n1_ := asd (ho); clear HB; clear HO_5; have HB := n0_; have HO350 := n1_; clear n0_ n1_; clear ho hb hg hat))
       go_roundg k1
       case measure => have := HK1.out; omega
       case rel => exact ⟨(y348), ((IntKind.u64.wrap ((IntKind.u64.wrap ((IntKind.u64.wrap (rd l0 x7_1)) - x6_1)) - (IntKind.u64.wrap (rd l1 x7_1)))) / 9223372036854775808), (wrap64 (x7_1 + 1)), eqB, eqB, H', ⟨by have := HK1.out; omega⟩, ⟨by (with_reducible repeat (first | apply Kd.R_alloc | apply Kd.R_drewN | apply Kd.R_drew)); exact HO350.out⟩, ⟨hbw⟩⟩
      ·rw [if_neg c6] at H
       exact absurd H (by simp)
     ·rw [if_neg c5] at H
      have c5b0 := decide_eq_false c5
      clear c5
      by_cases c8 : x5_1.length < 35184372088832
      ·rw [if_pos c8] at H
       have LMc8 := asd c8
       clear c8
       obtain ⟨y351, hy351⟩ : ∃ y_ : List Int, y_ = (x5_1 ++ [(IntKind.u64.wrap ((IntKind.u64.wrap (rd l0 x7_1)) - x6_1)) % 4294967296]) := ⟨_, rfl⟩
       try rw [Option.bind_some] at H
       try rw [← hy351] at H
       have Ny351 := asd hy351
       clear hy351
       have H' := asd H
       clear H
       have p346 : 0 ≤ (x7_1 : Int) := odt
       have q346 : x7_1 < (l0.length : Int) := odt
       obtain ⟨ad346, e346, hx346_0⟩ := Kd.at_int HR0.out x7_1 p346 q346
       cases e346
       replace hx346_0 := (HB.out.cell (World.block_lt_of_cell? w _ hx346_0)).trans hx346_0
       replace p346 := eq_true p346
       replace q346 := eq_true q346
       go_wp2_with (first | ((with_reducible refine gate_builtin (b := .append) (xs := #[.tmp 33, .tmp 36]) rfl ?_); at_builtin; refine Kd.R_append (Kd.int .u32) (w0 := w) w.heap.size rfl (.tmp 33) (.tmp 36) 39 83 (.int .u32 0) 4 rfl Tryz.underlying39 info83 rfl (by decide) (by omega) u5 x5_1 ((IntKind.u64.wrap ((IntKind.u64.wrap (rd l0 x7_1)) - x6_1)) % 4294967296) [.int .u32 ((IntKind.u64.wrap ((IntKind.u64.wrap (rd l0 x7_1)) - x6_1)) % 4294967296)] (fun _ => True) (fun _ => False) rfl rfl ?aP (fun _ hk => hk.elim) ?aF ?aO ?aB ?aS ?aL ?_; (case aP => exact rfl); (case aB => exact hbw); (case aF => exact (fun _ _ => trivial)); (case aO => exact (rUp HO_5.out)); (case aS => exact (below_size hbw)); (case aL => have := LMc8.out; omega); intro v352 w9 ho hb hg hat; rw [← Ny351.out] at ho; have n0_ := asd (hb); have n1_ := asd (ho); clear HB; clear HO_5; have HB := n0_; have HO353 := n1_; clear n0_ n1_; clear ho hb hg hat))
       go_roundg k1
       case measure => have := HK1.out; omega
       case rel => exact ⟨(y351), ((IntKind.u64.wrap ((IntKind.u64.wrap (rd l0 x7_1)) - x6_1)) / 9223372036854775808), (wrap64 (x7_1 + 1)), eqB, eqB, H', ⟨by have := HK1.out; omega⟩, ⟨by (with_reducible repeat (first | apply Kd.R_alloc | apply Kd.R_drewN | apply Kd.R_drew)); exact HO353.out⟩, ⟨hbw⟩⟩
      ·rw [if_neg c8] at H
       exact absurd H (by simp)
    ·rw [if_neg c4] at H
     exact absurd H (by simp)
   ·rw [if_neg c3] at H
    have c3b0 := decide_eq_false c3
    clear c3
    replace H := Option.bind_eq_some_iff.mp H
    obtain ⟨t354, A100, H⟩ := H
    have A10 := asd A100
    clear A100
    obtain rfl := Option.some.inj H
    obtain ⟨Ao11, co11, eo11⟩ := Kd.R_slice HO_5.out
    subst eo11
    go_wp2_with (first | ((with_reducible refine gate_callee (f := 99) rfl ?_); refine goesL_ (some 41) rfl rfl Tryz.func99 (by kernel_rfl) rfl #[.slice Ao11 x5_1.length co11] rfl eqA ?_; (with_reducible refine (cuspref02_trim.calls k1 (fun k_ => some k_ = (.slice Ao11 x5_1.length co11 : Value).ownBlock) (.slice Ao11 x5_1.length co11) x5_1 t354 w _ ?side1 ?side2 A10.out).mono ?_); (case side1 => repeat (first | (with_reducible first | exact HB.out | apply below_alloc | apply pw_below_drewN | apply below_drew1) | exact HB.out)); (case side2 => exact Kd.R_tight rfl HO_5.out); rintro e w12 ⟨v355, rfl, ho0, hb, hkp⟩; refine ⟨_, rfl, ?_⟩; have n0_ := asd (Kd.R_mono (ok' := fun k_ => True) ho0 (fun k_ hk_ => trivial)); have n1_ := asd (hb); clear HB; clear HO_5; have HO356 := n0_; have HB := n1_; clear n0_ n1_; (try clear hb); (try clear hkp); (try clear ho0)))
    go_ret
    exact ⟨_, eqC, by (with_reducible repeat (first | apply Kd.R_alloc | apply Kd.R_drewN | apply Kd.R_drew)); exact HO356.out, hbw⟩
end Go.Proofs.YthmeocigliephaaGreatDoor.PSu
end
section
namespace Go.Proofs.YthmeocigliephaaGreatDoor.Plain
open Go.Proofs.YthmeocigliephaaGreatDoor.PSu Go.Proofs.YthmeocigliephaaGreatDoor.Big
theorem rtrim_ev (l : List Int) (hd : Dg l) (hb : l.length < 4611686018427387904) : ∀ n : Nat, n ≤ l.length → val (l.drop n) = 0 → Ev (fun k => cuspref02_trim.l0 k l (n : Int)) (dig (val l)) := by
  intro n
  induction n with
  | zero =>
    intro _ h
    rw [List.drop_zero] at h
    rw [h, dig_zero]
    refine Ev.step (f := fun _ => some []) (fun k => ?_) (Ev.now _)
    rw [cuspref02_trim.l0, if_neg (by omega), if_pos (by omega), if_pos (by omega)]
    rfl
  | succ n ih =>
    intro hn h
    have ew : wrap64 (((n + 1 : Nat) : Int) - 1) = (n : Int) := by rw [w64_of (by omega) (by omega)]; omega
    have hs := val_drop_succ l n (by omega)
    rw [h] at hs
    obtain ⟨d, hdd, hd1⟩ := hd.nat n
    rw [hdd] at hs
    by_cases h0 : d = 0
    · subst h0
      refine Ev.step (fun k => ?_) (ih (by omega) (by rw [hs]; rfl))
      rw [cuspref02_trim.l0, if_pos (by omega), ew, if_pos (by omega), if_pos (by omega), rd_nat, hdd, if_pos (by omega)]
    · have hN : Nrm (l.take (n + 1)) := by
        refine (nrm_iff (hd.take _)).2 (.inr ?_)
        rw [List.length_take, Nat.min_eq_left (by omega), Nat.add_sub_cancel, List.getD_eq_getElem?_getD, List.getElem?_take_of_lt (by omega), ← List.getD_eq_getElem?_getD, hdd]
        omega
      have hv : val (l.take (n + 1)) = val l := by
        have := val_take_drop l (n + 1) (by omega)
        rw [h] at this; omega
      have e := dig_val hN
      rw [hv] at e
      rw [e]
      refine Ev.step (f := fun _ => some (l.take (n + 1))) (fun k => ?_) (Ev.now _)
      rw [cuspref02_trim.l0, if_pos (by omega), ew, if_pos (by omega), if_pos (by omega), rd_nat, hdd, if_neg (by omega), if_pos (by omega), if_pos (by omega), Int.toNat_natCast]
theorem rtrim_law {l : List Int} (hd : Dg l) (hb : l.length < 4611686018427387904) : Ev (fun k => cuspref02_trim.f k l) (dig (val l)) :=
  rtrim_ev l hd hb l.length (Nat.le_refl _) (by rw [List.drop_length]; rfl)
theorem up_digit (d c s : Nat) (hd : d < 4294967296) (hs : s < 32) (hc : c < 2 ^ s) :
    bits .or .u64 (shl .u64 (IntKind.u64.wrap (d : Int)) (s : Int)) (IntKind.u64.wrap (c : Int)) = ((d * 2 ^ s + c : Nat) : Int) ∧ (d * 2 ^ s + c) / 4294967296 < 2 ^ s := by
  have hs2 : 2 ^ s ≤ 2147483648 := Nat.pow_le_pow_right (by omega) (show s ≤ 31 by omega)
  have hdm : d * 2 ^ s ≤ 4294967295 * 2 ^ s := Nat.mul_le_mul_right _ (by omega)
  have hmin' : min (s : Int).toNat IntKind.u64.bits = s := by simp [IntKind.bits]; omega
  have h1 : shl .u64 (IntKind.u64.wrap (d : Int)) (s : Int) = ((d * 2 ^ s : Nat) : Int) := by
    unfold shl; rw [hmin', u64_of (x := (d : Int)) (by omega) (by omega), show (d : Int) * 2 ^ s = ((d * 2 ^ s : Nat) : Int) by rw [Int.natCast_mul, Int.natCast_pow]; rfl, u64_of (by omega) (by omega)]
  refine ⟨?_, ?_⟩
  · rw [h1, u64_of (x := (c : Int)) (by omega) (by omega), bits_or_u64_nat _ _ (by omega) (by omega), Nat.mul_comm d, or_add hc]
  · refine Nat.div_lt_of_lt_mul ?_
    omega
theorem rup_ev (p : List Int) (s K : Nat) (hp : Dg p) (hs : s < 32) (hb : K + p.length < 35184372088831) :
    ∀ (d i c : Nat) (y : List Int), d = p.length - i → i ≤ p.length → y.length = i → Dg y → c < 2 ^ s → val y + 2 ^ (32 * i) * c = val (p.take i) * 2 ^ s →
      Ev (fun k => cuspref02_up.l0 k p (List.replicate K 0 ++ y) (s : Int) (c : Int) (i : Int)) (dig (val p * 2 ^ (32 * K + s))) := by
  intro d
  induction d with
  | zero =>
    intro i c y hd hi hy hdy hc hv
    have hi' : i = p.length := by omega
    subst hi'
    rw [List.take_length] at hv
    have hs2 : 2 ^ s ≤ 2147483648 := Nat.pow_le_pow_right (by omega) (show s ≤ 31 by omega)
    have e : val (List.replicate K 0 ++ y ++ [(c : Int)]) = val p * 2 ^ (32 * K + s) := by
      rw [List.append_assoc, val_append, val_zeros, List.length_replicate, Nat.zero_add, val_snoc, hy, Int.toNat_natCast, hv, Nat.pow_add, Nat.mul_comm (2 ^ (32 * K)), Nat.mul_assoc, Nat.mul_comm (2 ^ s)]
    have ht := rtrim_law (l := List.replicate K 0 ++ y ++ [(c : Int)]) (((Dg.zeros K).append hdy).append (Dg.one (by omega) (by omega))) (by simp; omega)
    rw [e] at ht
    refine Ev.step (f := fun k => cuspref02_trim.f k (List.replicate K 0 ++ y ++ [(c : Int)])) (fun k => ?_) ht
    rw [cuspref02_up.l0, if_neg (by omega), if_pos (by simp; omega)]
    cases cuspref02_trim.f k (List.replicate K 0 ++ y ++ [(c : Int)]) <;> rfl
  | succ d ih =>
    intro i c y hd hi hy hdy hc hv
    obtain ⟨pd, hpd, hp1⟩ := hp.nat i
    have tp := val_take_succ' p i
    rw [hpd, Int.toNat_natCast] at tp
    obtain ⟨s1, s3⟩ := up_digit pd c s hp1 hs hc
    have hs2 : 2 ^ s ≤ 2147483648 := Nat.pow_le_pow_right (by omega) (show s ≤ 31 by omega)
    have hnew : val (y ++ [(((pd * 2 ^ s + c) % 4294967296 : Nat) : Int)]) + 2 ^ (32 * (i + 1)) * ((pd * 2 ^ s + c) / 4294967296) = val (p.take (i + 1)) * 2 ^ s := by
      rw [val_snoc, hy, tp, Int.toNat_natCast, pow32_succ, Nat.add_mul, ← hv]
      have h1 : 2 ^ (32 * i) * ((pd * 2 ^ s + c) % 4294967296) + 4294967296 * 2 ^ (32 * i) * ((pd * 2 ^ s + c) / 4294967296) = 2 ^ (32 * i) * (pd * 2 ^ s + c) := by
        rw [Nat.mul_comm 4294967296, Nat.mul_assoc, ← Nat.mul_add]; congr 1; omega
      rw [Nat.mul_add] at h1
      have h2 : 2 ^ (32 * i) * pd * 2 ^ s = 2 ^ (32 * i) * (pd * 2 ^ s) := Nat.mul_assoc _ _ _
      omega
    refine Ev.step (fun k => ?_) (ih (i + 1) ((pd * 2 ^ s + c) / 4294967296) _ (by omega) (by omega) (by simp [hy]) (hdy.append (Dg.one (by omega) (by omega))) s3 hnew)
    rw [cuspref02_up.l0, if_pos (by omega), if_pos (by omega), if_pos (by omega), if_pos (by simp; omega), rd_nat, hpd, s1, w64_succ (by omega), List.append_assoc,
      show ((pd * 2 ^ s + c : Nat) : Int) % 4294967296 = (((pd * 2 ^ s + c) % 4294967296 : Nat) : Int) from by omega, show ((pd * 2 ^ s + c : Nat) : Int) / 4294967296 % 4294967296 = (((pd * 2 ^ s + c) / 4294967296 : Nat) : Int) from by omega]
theorem rup_law (a n : Nat) (hb : (dig a).length + n / 32 < 35184372088831) : Ev (fun k => cuspref02_up.f k (dig a) (n : Int)) (dig (a * 2 ^ n)) := by
  unfold cuspref02_up.f
  by_cases h0 : a = 0
  · subst h0
    rw [Nat.zero_mul, dig_zero]
    exact Ev.congr (fun k => if_pos rfl) (Ev.now _)
  · have hne := dig_ne h0
    have hl : (dig a).length ≠ 0 := fun h => hne (List.length_eq_zero_iff.1 h)
    have h := rup_ev (dig a) (n % 32) (n / 32) (dg_dig a) (by omega) (by omega) _ 0 0 [] rfl (by omega) rfl Dg.nil (Nat.pow_pos (by omega)) (by simp)
    rw [val_dig, show 32 * (n / 32) + n % 32 = n by omega] at h
    have ew : wrap64 (Int.tdiv (n : Int) 32) = ((n / 32 : Nat) : Int) := by
      rw [Int.tdiv_eq_ediv_of_nonneg (by omega), show ((n : Int) / 32) = ((n / 32 : Nat) : Int) by omega, w64_nat (by omega)]
    have em : IntKind.u64.wrap (Int.tmod (n : Int) 32) = ((n % 32 : Nat) : Int) := by rw [Int.tmod_eq_emod_of_nonneg (by omega), u64_of (by omega) (by omega)]; omega
    refine Ev.congr (fun k => ?_) h
    rw [if_neg (by omega), ew, em, if_pos (by omega), Int.toNat_natCast, if_pos (by omega), List.append_nil]
    rfl
theorem rorder_ev (a b : List Int) (ha : Dg a) (hb : Dg b) (he : a.length = b.length) (hl : a.length < 4611686018427387904) :
    ∀ i : Nat, i ≤ a.length → val (a.drop i) = val (b.drop i) → Ev (fun k => cuspref02_order.l0 k a b ((i : Int) - 1)) (cmpN (val a) (val b)) := by
  intro i
  induction i with
  | zero =>
    intro _ hv
    simp only [List.drop_zero] at hv
    rw [hv, cmpN_eq]
    refine Ev.step (f := fun _ => some 0) (fun k => ?_) (Ev.now _)
    rw [cuspref02_order.l0, if_neg (by omega)]
  | succ i ih =>
    intro hi hv
    have ea : ((i + 1 : Nat) : Int) - 1 = (i : Int) := by omega
    rw [ea]
    have da := val_drop_succ a i (by omega)
    have db := val_drop_succ b i (by omega)
    have ga := ha.get i
    have gb := hb.get i
    have ta := val_take_drop a i (by omega)
    have tb := val_take_drop b i (by omega)
    have la := val_lt (ha.take i)
    have lb := val_lt (hb.take i)
    rw [List.length_take, Nat.min_eq_left (by omega)] at la lb
    have hp := pow32_pos i
    by_cases e : a.getD i 0 = b.getD i 0
    · refine Ev.step (f := fun k => cuspref02_order.l0 k a b ((i : Int) - 1)) (fun k => ?_) (ih (by omega) (by rw [da, db, hv, e]))
      rw [cuspref02_order.l0, if_pos (by omega), if_pos (by omega), if_pos (by omega), if_pos (by omega), rd_nat, rd_nat, if_pos e, w64_of (by omega) (by omega)]
    · by_cases h : a.getD i 0 < b.getD i 0
      · have : val a < val b := by
          have h1 : val (a.drop i) + 1 ≤ val (b.drop i) := by omega
          have h2 : 2 ^ (32 * i) * (val (a.drop i) + 1) ≤ 2 ^ (32 * i) * val (b.drop i) := Nat.mul_le_mul_left _ h1
          rw [Nat.mul_add] at h2
          omega
        rw [cmpN_lt this]
        refine Ev.step (f := fun _ => some (-1)) (fun k => ?_) (Ev.now _)
        rw [cuspref02_order.l0, if_pos (by omega), if_pos (by omega), if_pos (by omega), if_pos (by omega), rd_nat, rd_nat, if_neg e, if_pos h]
      · have : val b < val a := by
          have h1 : val (b.drop i) + 1 ≤ val (a.drop i) := by omega
          have h2 : 2 ^ (32 * i) * (val (b.drop i) + 1) ≤ 2 ^ (32 * i) * val (a.drop i) := Nat.mul_le_mul_left _ h1
          rw [Nat.mul_add] at h2
          omega
        rw [cmpN_gt this]
        refine Ev.step (f := fun _ => some 1) (fun k => ?_) (Ev.now _)
        rw [cuspref02_order.l0, if_pos (by omega), if_pos (by omega), if_pos (by omega), if_pos (by omega), rd_nat, rd_nat, if_neg e, if_neg h]
theorem rorder_law (a b : Nat) (hl : (dig a).length < 4611686018427387904) : Ev (fun k => cuspref02_order.f k (dig a) (dig b)) (cmpN a b) := by
  unfold cuspref02_order.f
  by_cases he : (dig a).length = (dig b).length
  · have h := rorder_ev (dig a) (dig b) (dg_dig a) (dg_dig b) he hl (dig a).length (Nat.le_refl _) (by rw [List.drop_length, he, List.drop_length])
    rw [val_dig, val_dig] at h
    refine Ev.congr (f := fun k => cuspref02_order.l0 k (dig a) (dig b) (((dig a).length : Int) - 1)) (fun k => ?_) h
    rw [if_pos (by omega), w64_of (by omega) (by omega)]
  · by_cases h : (dig a).length < (dig b).length
    · rw [cmpN_lt (lt_of_length h)]
      exact Ev.congr (f := fun _ => some (-1)) (fun k => by rw [if_neg (by omega), if_pos (by omega)]) (Ev.now _)
    · rw [cmpN_gt (lt_of_length (by omega))]
      exact Ev.congr (f := fun _ => some 1) (fun k => by rw [if_neg (by omega), if_neg (by omega)]) (Ev.now _)
theorem rless_ev (p q : List Int) (hp : Dg p) (hq : Dg q) (hlen : q.length ≤ p.length) (hle : val q ≤ val p) (hb : p.length < 35184372088832) :
    ∀ (d i c : Nat) (x : List Int), d = p.length - i → i ≤ p.length → x.length = i → Dg x → c ≤ 1 → val x + val (q.take i) = val (p.take i) + 2 ^ (32 * i) * c →
      Ev (fun k => cuspref02_less.l0 k p q x (c : Int) (i : Int)) (dig (val p - val q)) := by
  intro d
  induction d with
  | zero =>
    intro i c x hd hi hx hdx hc hv
    have hi' : i = p.length := by omega
    subst hi'
    rw [List.take_length, List.take_of_length_le hlen] at hv
    have hx1 := val_lt hdx
    rw [hx] at hx1
    have hc0 : c = 0 := by
      rcases Nat.eq_zero_or_pos c with h | h
      · exact h
      · have : c = 1 := by omega
        subst this; omega
    subst hc0
    have e : val x = val p - val q := by omega
    refine Ev.step (f := fun k => cuspref02_trim.f k x) (fun k => ?_) (e ▸ rtrim_law hdx (by omega))
    rw [cuspref02_less.l0, if_neg (by omega)]
    cases cuspref02_trim.f k x <;> rfl
  | succ d ih =>
    intro i c x hd hi hx hdx hc hv
    obtain ⟨pd, hpd, hp1⟩ := hp.nat i
    obtain ⟨qd, hqd, hq1⟩ := hq.nat i
    have tp := val_take_succ' p i
    have tq := val_take_succ' q i
    rw [hpd, Int.toNat_natCast] at tp
    rw [hqd, Int.toNat_natCast] at tq
    have hnew : ∀ (s c' : Nat), s + c + qd = pd + 4294967296 * c' → val (x ++ [((s : Nat) : Int)]) + val (q.take (i + 1)) = val (p.take (i + 1)) + 2 ^ (32 * (i + 1)) * c' := by
      intro s c' hs
      rw [val_snoc, hx, tp, tq, Int.toNat_natCast, pow32_succ]
      have h1 : 2 ^ (32 * i) * (s + c + qd) = 2 ^ (32 * i) * (pd + 4294967296 * c') := by rw [hs]
      rw [Nat.mul_add, Nat.mul_add, Nat.mul_add] at h1
      have h2 : 4294967296 * 2 ^ (32 * i) * c' = 2 ^ (32 * i) * (4294967296 * c') := by rw [Nat.mul_comm 4294967296, Nat.mul_assoc]
      omega
    have hgo : ∀ (s c' : Nat), s + c + qd = pd + 4294967296 * c' → s < 4294967296 → c' ≤ 1 → Ev (fun k => cuspref02_less.l0 k p q (x ++ [((s : Nat) : Int)]) (c' : Int) ((i + 1 : Nat) : Int)) (dig (val p - val q)) :=
      fun s c' h1 h2 h3 => ih (i + 1) c' _ (by omega) (by omega) (by simp [hx]) (hdx.append (Dg.one (by omega) (by omega))) h3 (hnew s c' h1)
    have ep : IntKind.u64.wrap (pd : Int) = (pd : Int) := u64_of (by omega) (by omega)
    have eq : IntKind.u64.wrap (qd : Int) = (qd : Int) := u64_of (by omega) (by omega)
    have hq0 : ¬ i < q.length → qd = 0 := fun hlq => by
      rw [List.getD_eq_getElem?_getD, List.getElem?_eq_none (by omega)] at hqd; simp at hqd; omega
    by_cases hlt : pd < c + qd
    · refine Ev.step (fun k => ?_) (hgo (pd + 4294967296 - (c + qd)) 1 (by omega) (by omega) (by omega))
      rw [cuspref02_less.l0, if_pos (by omega), if_pos (by omega)]
      by_cases hlq : i < q.length
      · rw [if_pos (by omega), if_pos (by omega), rd_nat, rd_nat, hpd, hqd, ep, eq, w64_succ (by omega)]
        congr 1
        · congr 2
          rw [IntKind.wrap_u64, IntKind.wrap_u64]; omega
        · rw [IntKind.wrap_u64, IntKind.wrap_u64]; omega
      · have := hq0 hlq
        subst this
        rw [if_neg (by omega), if_pos (by omega), rd_nat, hpd, ep, w64_succ (by omega)]
        congr 1
        · congr 2
          rw [IntKind.wrap_u64]; omega
        · rw [IntKind.wrap_u64]; omega
    · refine Ev.step (fun k => ?_) (hgo (pd - (c + qd)) 0 (by omega) (by omega) (by omega))
      rw [cuspref02_less.l0, if_pos (by omega), if_pos (by omega)]
      by_cases hlq : i < q.length
      · rw [if_pos (by omega), if_pos (by omega), rd_nat, rd_nat, hpd, hqd, ep, eq, w64_succ (by omega)]
        congr 1
        · congr 2
          rw [IntKind.wrap_u64, IntKind.wrap_u64]; omega
        · rw [IntKind.wrap_u64, IntKind.wrap_u64]; omega
      · have := hq0 hlq
        subst this
        rw [if_neg (by omega), if_pos (by omega), rd_nat, hpd, ep, w64_succ (by omega)]
        congr 1
        · congr 2
          rw [IntKind.wrap_u64]; omega
        · rw [IntKind.wrap_u64]; omega
theorem rless_law (a b : Nat) (hle : b ≤ a) (hb : (dig a).length < 35184372088832) : Ev (fun k => cuspref02_less.f k (dig a) (dig b)) (dig (a - b)) := by
  have h := rless_ev (dig a) (dig b) (dg_dig a) (dg_dig b) (dig_length_mono hle) (by rw [val_dig, val_dig]; exact hle) hb _ 0 0 [] rfl (by omega) rfl Dg.nil (by omega) (by simp)
  rw [val_dig, val_dig] at h
  exact h
end Go.Proofs.YthmeocigliephaaGreatDoor.Plain
end
section
namespace Go.Proofs.YthmeocigliephaaGreatDoor.PSu
attribute [local go_sem] f64bits_run f64from_run run_float_some max2_int min2_int max_two min_two max_three min_three max_four min_four
mutual
def cuspref02_down.j1 : Nat → List Int → Int → Bool → Option (List Int × Bool)
 | 0, _, _, _ => none
 | k + 1, x0, x1, x6 => if (wrap64 (Int.tdiv x1 32)) ≥ (x0.length : Int) then (some (([] : List Int), x6)) else (if x6 = true then (if 0 ≤ (wrap64 (Int.tdiv x1 32)) then (if (wrap64 (Int.tdiv x1 32)) < (x0.length : Int) then (if 0 ≤ (IntKind.u64.wrap (Int.tmod x1 32)) then (cuspref02_down.j2 k x0 x1 ((Go.bits .and .u32 (rd x0 (wrap64 (Int.tdiv x1 32))) (((shl .u32 1 (IntKind.u64.wrap (Int.tmod x1 32))) - 1) % 4294967296)) == 0) (IntKind.u64.wrap (Int.tmod x1 32))) else (none)) else (none)) else (none)) else (cuspref02_down.j2 k x0 x1 false (IntKind.u64.wrap (Int.tmod x1 32))))
def cuspref02_down.j2 : Nat → List Int → Int → Bool → Int → Option (List Int × Bool)
 | 0, _, _, _, _ => none
 | k + 1, x0, x1, x6, x8 => cuspref02_down.l1 k x0 x6 x8 ([] : List Int) (wrap64 (Int.tdiv x1 32))
def cuspref02_down.l1 : Nat → List Int → Bool → Int → List Int → Int → Option (List Int × Bool)
 | 0, _, _, _, _, _ => none
 | k + 1, x0, x6, x8, x9, x10 => if x10 < (x0.length : Int) then (if 0 ≤ x10 then (if (wrap64 (x10 + 1)) < (x0.length : Int) then (if 0 ≤ (wrap64 (x10 + 1)) then (if 0 ≤ x8 then (if x9.length < 35184372088832 then (cuspref02_down.l1 k x0 x6 x8 (x9 ++ [(shr .u64 (Go.bits .or .u64 (IntKind.u64.wrap (rd x0 x10)) (IntKind.u64.wrap ((IntKind.u64.wrap (rd x0 (wrap64 (x10 + 1)))) * 4294967296))) x8) % 4294967296]) (wrap64 (x10 + 1))) else (none)) else (none)) else (none)) else (if 0 ≤ x8 then (if x9.length < 35184372088832 then (cuspref02_down.l1 k x0 x6 x8 (x9 ++ [(shr .u64 (IntKind.u64.wrap (rd x0 x10)) x8) % 4294967296]) (wrap64 (x10 + 1))) else (none)) else (none))) else (none)) else ((cuspref02_trim.f k x9).bind fun t291 => (some (t291, x6)))
def cuspref02_down.l0 : Nat → List Int → Int → Bool → Int → Option (List Int × Bool)
 | 0, _, _, _, _ => none
 | k + 1, x0, x1, x6, x7 => if x7 < (x0.length : Int) then (if x7 < (wrap64 (Int.tdiv x1 32)) then (if x6 = true then (if 0 ≤ x7 then (cuspref02_down.l0 k x0 x1 ((rd x0 x7) == 0) (wrap64 (x7 + 1))) else (none)) else (cuspref02_down.l0 k x0 x1 false (wrap64 (x7 + 1)))) else (cuspref02_down.j1 k x0 x1 x6)) else (cuspref02_down.j1 k x0 x1 x6)
end
def cuspref02_down.f (k : Nat) (l0 : List Int) (a1 : Int) : Option (List Int × Bool) := cuspref02_down.l0 k l0 a1 true 0
theorem cuspref02_down.mono_l : ∀ k, (∀ y0 y1 y2, LeO (cuspref02_down.j1 k y0 y1 y2) (cuspref02_down.j1 (k + 1) y0 y1 y2)) ∧ (∀ y0 y1 y2 y3, LeO (cuspref02_down.j2 k y0 y1 y2 y3) (cuspref02_down.j2 (k + 1) y0 y1 y2 y3)) ∧ (∀ y0 y1 y2 y3 y4, LeO (cuspref02_down.l1 k y0 y1 y2 y3 y4) (cuspref02_down.l1 (k + 1) y0 y1 y2 y3 y4)) ∧ (∀ y0 y1 y2 y3, LeO (cuspref02_down.l0 k y0 y1 y2 y3) (cuspref02_down.l0 (k + 1) y0 y1 y2 y3))
 | 0 => ⟨fun _ _ _ r h => by simp [cuspref02_down.j1] at h, fun _ _ _ _ r h => by simp [cuspref02_down.j2] at h, fun _ _ _ _ _ r h => by simp [cuspref02_down.l1] at h, fun _ _ _ _ r h => by simp [cuspref02_down.l0] at h⟩
 | k + 1 => by
  obtain ⟨ih0, ih1, ih2, ih3⟩ := cuspref02_down.mono_l k
  refine ⟨?_, ?_, ?_, ?_⟩
  ·intro y0 y1 y2
   unfold cuspref02_down.j1
   repeat' first
   | (with_reducible exact ih0 _ _ _)
   | (with_reducible exact ih1 _ _ _ _)
   | (with_reducible exact ih2 _ _ _ _ _)
   | (with_reducible exact ih3 _ _ _ _)
   | (with_reducible exact cuspref02_trim.mono _ _)
   | (with_reducible exact LeO.refl _)
   | (with_reducible exact LeO.none _)
   | (with_reducible refine LeO.ite ?_ ?_)
   | (with_reducible refine LeO.bind ?_ (fun _ => ?_))
   | exact ih0 _ _ _
   | exact ih1 _ _ _ _
   | exact ih2 _ _ _ _ _
   | exact ih3 _ _ _ _
   | exact cuspref02_trim.mono _ _
   | exact LeO.none _
   | refine LeO.ite ?_ ?_
   | refine LeO.bind ?_ (fun _ => ?_)
  ·intro y0 y1 y2 y3
   unfold cuspref02_down.j2
   repeat' first
   | (with_reducible exact ih0 _ _ _)
   | (with_reducible exact ih1 _ _ _ _)
   | (with_reducible exact ih2 _ _ _ _ _)
   | (with_reducible exact ih3 _ _ _ _)
   | (with_reducible exact cuspref02_trim.mono _ _)
   | (with_reducible exact LeO.refl _)
   | (with_reducible exact LeO.none _)
   | (with_reducible refine LeO.ite ?_ ?_)
   | (with_reducible refine LeO.bind ?_ (fun _ => ?_))
   | exact ih0 _ _ _
   | exact ih1 _ _ _ _
   | exact ih2 _ _ _ _ _
   | exact ih3 _ _ _ _
   | exact cuspref02_trim.mono _ _
   | exact LeO.none _
   | refine LeO.ite ?_ ?_
   | refine LeO.bind ?_ (fun _ => ?_)
  ·intro y0 y1 y2 y3 y4
   unfold cuspref02_down.l1
   repeat' first
   | (with_reducible exact ih0 _ _ _)
   | (with_reducible exact ih1 _ _ _ _)
   | (with_reducible exact ih2 _ _ _ _ _)
   | (with_reducible exact ih3 _ _ _ _)
   | (with_reducible exact cuspref02_trim.mono _ _)
   | (with_reducible exact LeO.refl _)
   | (with_reducible exact LeO.none _)
   | (with_reducible refine LeO.ite ?_ ?_)
   | (with_reducible refine LeO.bind ?_ (fun _ => ?_))
   | exact ih0 _ _ _
   | exact ih1 _ _ _ _
   | exact ih2 _ _ _ _ _
   | exact ih3 _ _ _ _
   | exact cuspref02_trim.mono _ _
   | exact LeO.none _
   | refine LeO.ite ?_ ?_
   | refine LeO.bind ?_ (fun _ => ?_)
  ·intro y0 y1 y2 y3
   unfold cuspref02_down.l0
   repeat' first
   | (with_reducible exact ih0 _ _ _)
   | (with_reducible exact ih1 _ _ _ _)
   | (with_reducible exact ih2 _ _ _ _ _)
   | (with_reducible exact ih3 _ _ _ _)
   | (with_reducible exact cuspref02_trim.mono _ _)
   | (with_reducible exact LeO.refl _)
   | (with_reducible exact LeO.none _)
   | (with_reducible refine LeO.ite ?_ ?_)
   | (with_reducible refine LeO.bind ?_ (fun _ => ?_))
   | exact ih0 _ _ _
   | exact ih1 _ _ _ _
   | exact ih2 _ _ _ _ _
   | exact ih3 _ _ _ _
   | exact cuspref02_trim.mono _ _
   | exact LeO.none _
   | refine LeO.ite ?_ ?_
   | refine LeO.bind ?_ (fun _ => ?_)
theorem cuspref02_down.mono : ∀ a0 a1 k, LeO (cuspref02_down.f k a0 a1) (cuspref02_down.f (k + 1) a0 a1) := by
 intro a0 a1 k
 obtain ⟨ih0, ih1, ih2, ih3⟩ := cuspref02_down.mono_l k
 unfold cuspref02_down.f
 repeat' first
   | (with_reducible exact ih0 _ _ _)
   | (with_reducible exact ih1 _ _ _ _)
   | (with_reducible exact ih2 _ _ _ _ _)
   | (with_reducible exact ih3 _ _ _ _)
   | (with_reducible exact cuspref02_trim.mono _ _)
   | (with_reducible exact LeO.refl _)
   | (with_reducible exact LeO.none _)
   | (with_reducible refine LeO.ite ?_ ?_)
   | (with_reducible refine LeO.bind ?_ (fun _ => ?_))
   | exact ih0 _ _ _
   | exact ih1 _ _ _ _
   | exact ih2 _ _ _ _ _
   | exact ih3 _ _ _ _
   | exact cuspref02_trim.mono _ _
   | exact LeO.none _
   | refine LeO.ite ?_ ?_
   | refine LeO.bind ?_ (fun _ => ?_)
theorem cuspref02_down.calls (k : Nat) (A0 : Option Addr) (c0 : Nat) (l0 : List Int) (a1 : Int) (r1 : List Int) (r2 : Bool) (w : World) (hr0 : Kd.C (Kd.int .u32) w A0 l0.length l0) (hc0 : l0.length ≤ c0) (h : cuspref02_down.f k l0 a1 = some (r1, r2)) :
  Calls Tryz.prog 100 #[.slice A0 l0.length c0, .int .i64 a1] w fun e w' => ∃ v0_ : Value, e = .returned (.tuple #[v0_, .bool r2]) ∧ Kd.R (Kd.int .u32) 83 w' w.heap.size (fun _ => True) v0_ r1 ∧ Below w.heap.size w w' := by
 have HR0 := asd hr0
 have HC0 := asd hc0
 clear hr0 hc0
 have HB := asd (Below.refl w.heap.size w)
 have H := h
 clear h
 unfold cuspref02_down.f at H
 have HC3 := asd H
 clear H
 go_enter Tryz.func100, Tryz.ntmps100
 go_upto_block 0 with (fail)
 go_cut [6] (fun v6 wc => ∃ (kq : Nat) (x6_2 : Bool), v6 = .bool x6_2 ∧ Aside0 (cuspref02_down.j1 kq l0 a1 x6_2 = some (r1, r2)) ∧ Aside0 (kq ≤ k) ∧ Aside0 (Below w.heap.size w wc))
 case first =>
  have H := HC3.out
  clear HC3
  have H' := asd H
  clear H
  go_wp2
  go_loopg [6, 7] k (fun kq v6 v7 w' => ∃ (x6_1 : Bool) (x7_1 : Int), v6 = .bool x6_1 ∧ v7 = .int .i64 x7_1 ∧ Aside0 (cuspref02_down.l0 kq l0 a1 x6_1 x7_1 = some (r1, r2)) ∧ Aside0 (kq ≤ k) ∧ Aside0 (Below w.heap.size w w'))
  case atStart => exact ⟨(true), (0), eqB, eqB, H', ⟨Nat.le_refl _⟩, ⟨hbw⟩⟩
  case round =>
   clear H'
   try clear c1
   try clear p2
   obtain ⟨x6_1, x7_1, rfl, rfl, HA, HK1, HB⟩ := hrel
   cases gk with
   | zero => exact absurd HA.out (by simp [cuspref02_down.l0])
   | succ k1 =>
    have H := HA.out
    clear HA
    simp only [cuspref02_down.l0] at H
    by_cases c4 : x7_1 < (l0.length : Int)
    ·rw [if_pos c4] at H
     have c4b0 := decide_eq_true c4
     clear c4
     (first | rw [c4b0] | (simp only [i64_w, i32_w]; rw [c4b0]) | skip)
     by_cases c5 : x7_1 < (wrap64 (Int.tdiv a1 32))
     ·rw [if_pos c5] at H
      have c5b0 := decide_eq_true c5
      clear c5
      by_cases c6 : x6_1 = true
      ·subst c6
       rw [if_pos rfl] at H
       by_cases c7 : 0 ≤ x7_1
       ·rw [if_pos c7] at H
        have c7b0 := decide_eq_true c7
        clear c7
        have H' := asd H
        clear H
        have p281 : 0 ≤ (x7_1 : Int) := odt
        have q281 : x7_1 < (l0.length : Int) := odt
        obtain ⟨ad281, e281, hx281_0⟩ := Kd.at_int HR0.out x7_1 p281 q281
        cases e281
        replace hx281_0 := (HB.out.cell (World.block_lt_of_cell? w _ hx281_0)).trans hx281_0
        replace p281 := eq_true p281
        replace q281 := eq_true q281
        go_wp2
        go_roundg k1
        case measure => have := HK1.out; omega
        case rel => exact ⟨(((rd l0 x7_1) == 0)), (wrap64 (x7_1 + 1)), eqB, eqB, H', ⟨by have := HK1.out; omega⟩, ⟨hbw⟩⟩
       ·rw [if_neg c7] at H
        exact absurd H (by simp)
      ·replace c6 := Bool.eq_false_iff.mpr c6
       subst c6
       rw [if_neg (show ¬ (false = true) by decide)] at H
       have H' := asd H
       clear H
       go_wp2
       go_roundg k1
       case measure => have := HK1.out; omega
       case rel => exact ⟨(false), (wrap64 (x7_1 + 1)), eqB, eqB, H', ⟨by have := HK1.out; omega⟩, ⟨hbw⟩⟩
     ·rw [if_neg c5] at H
      have c5b0 := decide_eq_false c5
      clear c5
      have H' := asd H
      clear H
      go_wp2
      go_meet
      case rel => exact ⟨_, (x6_1), eqB, H', ⟨by have := HK1.out; first | omega | exact Nat.le_refl _⟩, ⟨hbw⟩⟩
    ·rw [if_neg c4] at H
     have c4b0 := decide_eq_false c4
     clear c4
     (first | rw [c4b0] | (simp only [i64_w, i32_w]; rw [c4b0]) | skip)
     have H' := asd H
     clear H
     go_wp2
     go_meet
     case rel => exact ⟨_, (x6_1), eqB, H', ⟨by have := HK1.out; first | omega | exact Nat.le_refl _⟩, ⟨hbw⟩⟩
 case rest =>
  clear HC3
  try clear c1
  try clear p2
  try clear q2
  try clear hx2
  try clear c4
  try clear c4b0
  try clear c5
  try clear c5b0
  try clear c6
  try clear p6
  try clear c7
  try clear c7b0
  try clear hx281_0
  try clear p2
  try clear p281
  try clear q281
  obtain ⟨kq, x6_2, rfl, HA, HJ2, HB⟩ := hcut
  cases kq with
  | zero => exact absurd HA.out (by simp [cuspref02_down.j1])
  | succ kj2 =>
   have H := HA.out
   clear HA
   simp only [cuspref02_down.j1] at H
   by_cases c8 : (wrap64 (Int.tdiv a1 32)) ≥ (l0.length : Int)
   ·rw [if_pos c8] at H
    have c8b0 := decide_eq_true c8
    clear c8
    simp only [Option.some.injEq, Prod.mk.injEq] at H
    obtain ⟨rfl, rfl⟩ := H
    go_wp2
    go_ret2
    exact ⟨_, eqC, by first | exact Kd.R_nil _ _ _ _ _ | exact Kd.N_nil _ _ _ _ _ | exact Kd.V_nil _ _ _ _ _ | exact Kd.Q_nil _ _ _ _ _ | exact Kd.S_nil _ _ _ _ _, hbw⟩
   ·rw [if_neg c8] at H
    have c8b0 := decide_eq_false c8
    clear c8
    have HC9 := asd H
    clear H
    go_upto_region 9 with (fail)
    go_cut [6] (fun v6 wc => ∃ (kq : Nat) (x6_8 : Bool), v6 = .bool x6_8 ∧ Aside0 (cuspref02_down.j2 kq l0 a1 x6_8 (IntKind.u64.wrap (Int.tmod a1 32)) = some (r1, r2)) ∧ Aside0 (kq ≤ kj2) ∧ Aside0 (Below w.heap.size w wc))
    case first =>
     have H := HC9.out
     clear HC9
     by_cases c10 : x6_2 = true
     ·subst c10
      rw [if_pos rfl] at H
      obtain ⟨ji11, hji11⟩ : ∃ j_ : Int, (wrap64 (Int.tdiv a1 32)) = j_ := ⟨_, rfl⟩
      first | rw [hji11] at H | simp only [hji11] at H ⊢
      (try rw [hji11] at c8b0)
      have hji11w : (IntKind.i64.wrap (Int.tdiv a1 32)) = ji11 := (i64_w _).trans hji11
      by_cases c12 : 0 ≤ (ji11)
      ·rw [if_pos c12] at H
       have c12b0 := decide_eq_true c12
       clear c12
       (first | rw [c12b0] | (simp only [i64_w, i32_w]; rw [c12b0]) | skip)
       by_cases c13 : (ji11) < (l0.length : Int)
       ·rw [if_pos c13] at H
        have c13b0 := decide_eq_true c13
        clear c13
        obtain ⟨ji14, hji14⟩ : ∃ j_ : Int, (IntKind.u64.wrap (Int.tmod a1 32)) = j_ := ⟨_, rfl⟩
        first | rw [hji14] at H | simp only [hji14] at H ⊢
        by_cases c15 : 0 ≤ (ji14)
        ·rw [if_pos c15] at H
         have c15b0 := eq_true c15
         have c15b1 := decide_eq_true c15
         clear c15
         obtain ⟨ji16, hji16⟩ : ∃ j_ : Int, (shl .u32 1 (ji14)) = j_ := ⟨_, rfl⟩
         first | rw [hji16] at H | simp only [hji16] at H ⊢
         have hji16_ : (IntKind.u32.wrap (1 * 2 ^ min (ji14).toNat 32)) = ji16 := hji16
         have hji16z : (ji14) ≤ 32 → (IntKind.u32.wrap (1 * 2 ^ (ji14).toNat)) = ji16 := shl_small hji16
         have hji16u : (IntKind.u32.wrap (2 ^ min (ji14).toNat 32)) = ji16 := by have h_ := hji16_; rw [Int.one_mul] at h_; exact h_
         have hji16v : (ji14) ≤ 32 → (IntKind.u32.wrap (2 ^ (ji14).toNat)) = ji16 := fun hle_ => by have h_ := hji16z hle_; rw [Int.one_mul] at h_; exact h_
         have H' := asd H
         clear H
         have p282 : 0 ≤ ((ji11) : Int) := odt
         have q282 : (ji11) < (l0.length : Int) := odt
         obtain ⟨ad282, e282, hx282_0⟩ := Kd.at_int HR0.out (ji11) p282 q282
         cases e282
         replace hx282_0 := (HB.out.cell (World.block_lt_of_cell? w _ hx282_0)).trans hx282_0
         replace p282 := eq_true p282
         replace q282 := eq_true q282
         go_wp2
         go_meet
         case rel => exact ⟨_, (((Go.bits .and .u32 (rd l0 (ji11)) (((ji16) - 1) % 4294967296)) == 0)), (by first | rfl | (simp; done) | (simp only [← hji11, ← hji16] <;> (first | rfl | simp)) | (simp [*]; done)), (by first | exact H' | (rw [hji14]; exact H')), ⟨by have := HJ2.out; first | omega | exact Nat.le_refl _⟩, ⟨hbw⟩⟩
        ·rw [if_neg c15] at H
         exact absurd H (by simp)
       ·rw [if_neg c13] at H
        exact absurd H (by simp)
      ·rw [if_neg c12] at H
       exact absurd H (by simp)
     ·replace c10 := Bool.eq_false_iff.mpr c10
      subst c10
      rw [if_neg (show ¬ (false = true) by decide)] at H
      have H' := asd H
      clear H
      go_wp2
      go_meet
      case rel => exact ⟨_, (false), eqB, (by first | exact H' | (rw [hji14]; exact H')), ⟨by have := HJ2.out; first | omega | exact Nat.le_refl _⟩, ⟨hbw⟩⟩
    case rest =>
     clear HC9
     try clear c1
     try clear p2
     try clear q2
     try clear hx2
     try clear c4
     try clear c4b0
     try clear c5
     try clear c5b0
     try clear c6
     try clear p6
     try clear c7
     try clear c7b0
     try clear c8
     try clear c8b0
     try clear c10
     try clear c12
     try clear c12b0
     try clear c13
     try clear c13b0
     try clear c15
     try clear c15b0
     try clear c15b1
     try clear hx281_0
     try clear hx282_0
     try clear p2
     try clear p281
     try clear p282
     try clear p6
     try clear q2
     try clear q281
     try clear q282
     obtain ⟨kq, x6_8, rfl, HA, HJ8, HB⟩ := hcut
     cases kq with
     | zero => exact absurd HA.out (by simp [cuspref02_down.j2])
     | succ kj8 =>
      have H := HA.out
      clear HA
      simp only [cuspref02_down.j2] at H
      have H' := asd H
      clear H
      go_wp2
      go_loopg [9, 10] kj8 (fun kq v9 v10 w' => ∃ (x9_3 : List Int) (x10_3 : Int), v10 = .int .i64 x10_3 ∧ Aside0 (cuspref02_down.l1 kq l0 x6_8 (IntKind.u64.wrap (Int.tmod a1 32)) x9_3 x10_3 = some (r1, r2)) ∧ Aside0 (kq ≤ kj8) ∧ Aside0 (Kd.R (Kd.int .u32) 83 w' w.heap.size (fun _ => True) v9 x9_3) ∧ Aside0 (Below w.heap.size w w'))
      case atStart => exact ⟨(([] : List Int)), (wrap64 (Int.tdiv a1 32)), eqB, (by first | exact H' | (rw [hji14]; exact H')), ⟨Nat.le_refl _⟩, ⟨by first | exact Kd.R_nil _ _ _ _ _ | exact Kd.N_nil _ _ _ _ _ | exact Kd.V_nil _ _ _ _ _ | exact Kd.Q_nil _ _ _ _ _ | exact Kd.S_nil _ _ _ _ _⟩, ⟨hbw⟩⟩
      case round =>
       clear H'
       try clear c1
       try clear p2
       try clear q2
       try clear hx2
       try clear c4
       try clear c4b0
       try clear c5
       try clear c5b0
       try clear c6
       try clear p6
       try clear c7
       try clear c7b0
       try clear c8
       try clear c8b0
       try clear c10
       try clear c12
       try clear c12b0
       try clear c13
       try clear c13b0
       try clear c15
       try clear c15b0
       try clear c15b1
       try clear hx281_0
       try clear hx282_0
       try clear p2
       try clear p281
       try clear p282
       try clear p6
       try clear q2
       try clear q281
       try clear q282
       obtain ⟨x9_3, x10_3, rfl, HA, HK3, HO_9, HB⟩ := hrel
       cases gk with
       | zero => exact absurd HA.out (by simp [cuspref02_down.l1])
       | succ k3 =>
        have H := HA.out
        clear HA
        simp only [cuspref02_down.l1] at H
        by_cases c17 : x10_3 < (l0.length : Int)
        ·rw [if_pos c17] at H
         have c17b0 := decide_eq_true c17
         clear c17
         by_cases c18 : 0 ≤ x10_3
         ·rw [if_pos c18] at H
          have c18b0 := decide_eq_true c18
          clear c18
          by_cases c19 : (wrap64 (x10_3 + 1)) < (l0.length : Int)
          ·rw [if_pos c19] at H
           have c19b0 := decide_eq_true c19
           clear c19
           obtain ⟨ji20, hji20⟩ : ∃ j_ : Int, (wrap64 (x10_3 + 1)) = j_ := ⟨_, rfl⟩
           first | rw [hji20] at H | simp only [hji20] at H ⊢
           (try rw [hji20] at c19b0)
           have hji20w : (IntKind.i64.wrap (x10_3 + 1)) = ji20 := (i64_w _).trans hji20
           by_cases c21 : 0 ≤ (ji20)
           ·rw [if_pos c21] at H
            have c21b0 := decide_eq_true c21
            clear c21
            obtain ⟨ji22, hji22⟩ : ∃ j_ : Int, (IntKind.u64.wrap (Int.tmod a1 32)) = j_ := ⟨_, rfl⟩
            first | rw [hji22] at H | simp only [hji22] at H ⊢
            by_cases c23 : 0 ≤ (ji22)
            ·rw [if_pos c23] at H
             have c23b0 := eq_true c23
             have c23b1 := decide_eq_true c23
             clear c23
             obtain ⟨ji24, hji24⟩ : ∃ j_ : Int, (shr .u64 (Go.bits .or .u64 (IntKind.u64.wrap (rd l0 x10_3)) (IntKind.u64.wrap ((IntKind.u64.wrap (rd l0 (ji20))) * 4294967296))) (ji22)) = j_ := ⟨_, rfl⟩
             first | rw [hji24] at H | simp only [hji24] at H ⊢
             have hji24_ : ((Go.bits .or .u64 (IntKind.u64.wrap (rd l0 x10_3)) (IntKind.u64.wrap ((IntKind.u64.wrap (rd l0 (ji20))) * 4294967296))) / 2 ^ min (ji22).toNat 64) = ji24 := hji24
             have hji24z : (ji22) ≤ 64 → ((Go.bits .or .u64 (IntKind.u64.wrap (rd l0 x10_3)) (IntKind.u64.wrap ((IntKind.u64.wrap (rd l0 (ji20))) * 4294967296))) / 2 ^ (ji22).toNat) = ji24 := shr_small hji24
             by_cases c25 : x9_3.length < 35184372088832
             ·rw [if_pos c25] at H
              have LMc25 := asd c25
              clear c25
              obtain ⟨y285, hy285⟩ : ∃ y_ : List Int, y_ = (x9_3 ++ [(ji24) % 4294967296]) := ⟨_, rfl⟩
              try rw [Option.bind_some] at H
              try rw [← hy285] at H
              have Ny285 := asd hy285
              clear hy285
              have H' := asd H
              clear H
              have p283 : 0 ≤ (x10_3 : Int) := odt
              have q283 : x10_3 < (l0.length : Int) := odt
              obtain ⟨ad283, e283, hx283_0⟩ := Kd.at_int HR0.out x10_3 p283 q283
              cases e283
              replace hx283_0 := (HB.out.cell (World.block_lt_of_cell? w _ hx283_0)).trans hx283_0
              replace p283 := eq_true p283
              replace q283 := eq_true q283
              have p284 : 0 ≤ ((ji20) : Int) := odt
              have q284 : (ji20) < (l0.length : Int) := odt
              obtain ⟨ad284, e284, hx284_0⟩ := Kd.at_int HR0.out (ji20) p284 q284
              obtain rfl : ad283 = ad284 := (by injection e284)
              replace hx284_0 := (HB.out.cell (World.block_lt_of_cell? w _ hx284_0)).trans hx284_0
              replace p284 := eq_true p284
              replace q284 := eq_true q284
              go_wp2_with (first | ((with_reducible refine gate_builtin (b := .append) (xs := #[.tmp 81, .tmp 86]) rfl ?_); at_builtin; refine Kd.R_append (Kd.int .u32) (w0 := w) w.heap.size rfl (.tmp 81) (.tmp 86) 39 83 (.int .u32 0) 4 rfl Tryz.underlying39 info83 rfl (by decide) (by omega) u9 x9_3 ((ji24) % 4294967296) [.int .u32 ((ji24) % 4294967296)] (fun _ => True) (fun _ => False) rfl rfl ?aP (fun _ hk => hk.elim) ?aF ?aO ?aB ?aS ?aL ?_; (case aP => exact rfl); (case aB => exact hbw); (case aF => exact (fun _ _ => trivial)); (case aO => exact (rUp HO_9.out)); (case aS => exact (below_size hbw)); (case aL => have := LMc25.out; omega); intro v286 w26 ho hb hg hat; rw [← Ny285.out] at ho; have n0_ := asd (hb); have n1_ := asd (ho); clear HB; clear HO_9; have HB := n0_; have HO287 := n1_; clear n0_ n1_; clear ho hb hg hat))
              subst hji22
              go_roundg k3
              case measure => have := HJ2.out; have := HJ8.out; have := HK3.out; omega
              case rel => exact ⟨(y285), (ji20), (by first | rfl | (simp; done) | (simp only [← hji20] <;> (first | rfl | simp)) | (simp [*]; done)), H', ⟨by have := HJ2.out; have := HJ8.out; have := HK3.out; omega⟩, ⟨by (with_reducible repeat (first | apply Kd.R_alloc | apply Kd.R_drewN | apply Kd.R_drew)); exact HO287.out⟩, ⟨hbw⟩⟩
             ·rw [if_neg c25] at H
              exact absurd H (by simp)
            ·rw [if_neg c23] at H
             exact absurd H (by simp)
           ·rw [if_neg c21] at H
            exact absurd H (by simp)
          ·rw [if_neg c19] at H
           have c19b0 := decide_eq_false c19
           clear c19
           obtain ⟨ji27, hji27⟩ : ∃ j_ : Int, (IntKind.u64.wrap (Int.tmod a1 32)) = j_ := ⟨_, rfl⟩
           first | rw [hji27] at H | simp only [hji27] at H ⊢
           by_cases c28 : 0 ≤ (ji27)
           ·rw [if_pos c28] at H
            have c28b0 := eq_true c28
            have c28b1 := decide_eq_true c28
            clear c28
            obtain ⟨ji29, hji29⟩ : ∃ j_ : Int, (shr .u64 (IntKind.u64.wrap (rd l0 x10_3)) (ji27)) = j_ := ⟨_, rfl⟩
            first | rw [hji29] at H | simp only [hji29] at H ⊢
            have hji29_ : ((IntKind.u64.wrap (rd l0 x10_3)) / 2 ^ min (ji27).toNat 64) = ji29 := hji29
            have hji29z : (ji27) ≤ 64 → ((IntKind.u64.wrap (rd l0 x10_3)) / 2 ^ (ji27).toNat) = ji29 := shr_small hji29
            by_cases c30 : x9_3.length < 35184372088832
            ·rw [if_pos c30] at H
             have LMc30 := asd c30
             clear c30
             obtain ⟨y288, hy288⟩ : ∃ y_ : List Int, y_ = (x9_3 ++ [(ji29) % 4294967296]) := ⟨_, rfl⟩
             try rw [Option.bind_some] at H
             try rw [← hy288] at H
             have Ny288 := asd hy288
             clear hy288
             have H' := asd H
             clear H
             have p283 : 0 ≤ (x10_3 : Int) := odt
             have q283 : x10_3 < (l0.length : Int) := odt
             obtain ⟨ad283, e283, hx283_0⟩ := Kd.at_int HR0.out x10_3 p283 q283
             cases e283
             replace hx283_0 := (HB.out.cell (World.block_lt_of_cell? w _ hx283_0)).trans hx283_0
             replace p283 := eq_true p283
             replace q283 := eq_true q283
             go_wp2_with (first | ((with_reducible refine gate_builtin (b := .append) (xs := #[.tmp 81, .tmp 86]) rfl ?_); at_builtin; refine Kd.R_append (Kd.int .u32) (w0 := w) w.heap.size rfl (.tmp 81) (.tmp 86) 39 83 (.int .u32 0) 4 rfl Tryz.underlying39 info83 rfl (by decide) (by omega) u9 x9_3 ((ji29) % 4294967296) [.int .u32 ((ji29) % 4294967296)] (fun _ => True) (fun _ => False) rfl rfl ?aP (fun _ hk => hk.elim) ?aF ?aO ?aB ?aS ?aL ?_; (case aP => exact rfl); (case aB => exact hbw); (case aF => exact (fun _ _ => trivial)); (case aO => exact (rUp HO_9.out)); (case aS => exact (below_size hbw)); (case aL => have := LMc30.out; omega); intro v289 w31 ho hb hg hat; rw [← Ny288.out] at ho; have n0_ := asd (hb); have n1_ := asd (ho); clear HB; clear HO_9; have HB := n0_; have HO290 := n1_; clear n0_ n1_; clear ho hb hg hat))
             subst hji27
             go_roundg k3
             case measure => have := HJ2.out; have := HJ8.out; have := HK3.out; omega
             case rel => exact ⟨(y288), (wrap64 (x10_3 + 1)), eqB, H', ⟨by have := HJ2.out; have := HJ8.out; have := HK3.out; omega⟩, ⟨by (with_reducible repeat (first | apply Kd.R_alloc | apply Kd.R_drewN | apply Kd.R_drew)); exact HO290.out⟩, ⟨hbw⟩⟩
            ·rw [if_neg c30] at H
             exact absurd H (by simp)
           ·rw [if_neg c28] at H
            exact absurd H (by simp)
         ·rw [if_neg c18] at H
          exact absurd H (by simp)
        ·rw [if_neg c17] at H
         have c17b0 := decide_eq_false c17
         clear c17
         replace H := Option.bind_eq_some_iff.mp H
         obtain ⟨t291, A320, H⟩ := H
         have A32 := asd A320
         clear A320
         simp only [Option.some.injEq, Prod.mk.injEq] at H
         obtain ⟨rfl, rfl⟩ := H
         obtain ⟨Ao33, co33, eo33⟩ := Kd.R_slice HO_9.out
         subst eo33
         go_wp2_with (first | ((with_reducible refine gate_callee (f := 99) rfl ?_); refine goesL_ (some 89) rfl rfl Tryz.func99 (by kernel_rfl) rfl #[.slice Ao33 x9_3.length co33] rfl eqA ?_; (with_reducible refine (cuspref02_trim.calls k3 (fun k_ => some k_ = (.slice Ao33 x9_3.length co33 : Value).ownBlock) (.slice Ao33 x9_3.length co33) x9_3 t291 w _ ?side1 ?side2 A32.out).mono ?_); (case side1 => repeat (first | (with_reducible first | exact HB.out | apply below_alloc | apply pw_below_drewN | apply below_drew1) | exact HB.out)); (case side2 => exact Kd.R_tight rfl HO_9.out); rintro e w34 ⟨v292, rfl, ho0, hb, hkp⟩; refine ⟨_, rfl, ?_⟩; have n0_ := asd (Kd.R_mono (ok' := fun k_ => True) ho0 (fun k_ hk_ => trivial)); have n1_ := asd (hb); clear HB; clear HO_9; have HO293 := n0_; have HB := n1_; clear n0_ n1_; (try clear hb); (try clear hkp); (try clear ho0)))
         go_ret2
         exact ⟨_, eqC, by (with_reducible repeat (first | apply Kd.R_alloc | apply Kd.R_drewN | apply Kd.R_drew)); exact HO293.out, hbw⟩
def cuspref02_build.f (a0 : Bool) (a1 : Int) (a2 : Int) : Option (Nat) := if a1 ≥ 4503599627370496 then (if a0 = true then (some ((Go.bits .or .u64 (Go.bits .or .u64 (IntKind.u64.wrap ((IntKind.u64.wrap (wrap64 (a2 + 1075))) * 4503599627370496)) (Go.bits .and .u64 a1 4503599627370495)) 9223372036854775808 : Int).toNat)) else (some ((Go.bits .or .u64 (IntKind.u64.wrap ((IntKind.u64.wrap (wrap64 (a2 + 1075))) * 4503599627370496)) (Go.bits .and .u64 a1 4503599627370495) : Int).toNat))) else (if a0 = true then (some ((Go.bits .or .u64 a1 9223372036854775808 : Int).toNat)) else (some ((a1 : Int).toNat)))
def cuspref02_sign.f (a0 : Bool) : Option (Int) := if a0 = true then (some 1) else (some 0)
def math_Inf.f (a0 : Int) : Option (Nat) := if a0 ≥ 0 then (some ((9218868437227405312 : Int).toNat)) else (some ((18442240474082181120 : Int).toNat))
end Go.Proofs.YthmeocigliephaaGreatDoor.PSu
end
section
namespace Go.Proofs.YthmeocigliephaaGreatDoor.Plain
open Go.Proofs.YthmeocigliephaaGreatDoor.PSu Go.Proofs.YthmeocigliephaaGreatDoor.Big
theorem rdown_l1 (p : List Int) (s m : Nat) (x6 : Bool) (hp : Dg p) (hs : s < 32) (hb : p.length < 35184372088831) (hm : m ≤ p.length) :
    ∀ (d i : Nat) (x : List Int), d = p.length - (m + i) → m + i ≤ p.length → x.length = i → Dg x → val x = (val p / 2 ^ (32 * m) / 2 ^ s) % 2 ^ (32 * i) →
      Ev (fun k => cuspref02_down.l1 k p x6 (s : Int) x ((m + i : Nat) : Int)) (dig (val p / 2 ^ (32 * m) / 2 ^ s), x6) := by
  intro d
  induction d with
  | zero =>
    intro i x hd hi hx hdx hv
    have hi' : m + i = p.length := by omega
    have hlt : val p / 2 ^ (32 * m) / 2 ^ s < 2 ^ (32 * i) := by
      refine Nat.lt_of_le_of_lt (Nat.div_le_self _ _) ?_
      rw [← val_drop hp]
      have := val_lt (hp.drop m)
      rwa [List.length_drop, show p.length - m = i by omega] at this
    rw [Nat.mod_eq_of_lt hlt] at hv
    refine Ev.step (f := fun k => (cuspref02_trim.f k x).bind fun t => some (t, x6)) (fun k => ?_) ?_
    · rw [cuspref02_down.l1, if_neg (by omega)]
    · have ht := rtrim_law hdx (by omega)
      rw [hv] at ht
      exact Ev.bind ht (Ev.now _)
  | succ d ih =>
    intro i x hd hi hx hdx hv
    obtain ⟨pd, hpd, hp1⟩ := hp.nat (m + i)
    obtain ⟨pe, hpe, hp2⟩ := hp.nat (m + i + 1)
    have g1 := val_get hp (m + i)
    have g2 := val_get hp (m + i + 1)
    rw [hpd, Int.toNat_natCast] at g1
    rw [hpe, Int.toNat_natCast] at g2
    have hs1 : 0 < 2 ^ s := Nat.pow_pos (by omega)
    have hs2 : 2 ^ s * 2 ^ (32 - s) = 4294967296 := pow2_split (by omega)
    have hsp : 2 ^ (32 * (m + i)) = 2 ^ (32 * m) * 2 ^ (32 * i) := by rw [← Nat.pow_add]; congr 1; omega
    generalize hX : val p / 2 ^ (32 * (m + i)) = X at g1
    have hX2 : val p / 2 ^ (32 * (m + i + 1)) = X / 4294967296 := by rw [pow32_succ, Nat.mul_comm, ← Nat.div_div_eq_div_mul, hX]
    rw [hX2] at g2
    have hX3 : val p / 2 ^ (32 * m) / 2 ^ (32 * i) = X := by rw [Nat.div_div_eq_div_mul, ← hsp, hX]
    have ht : (pd + 4294967296 * pe) / 2 ^ s % 4294967296 = X / 2 ^ s % 4294967296 := by
      have h1 : X % 18446744073709551616 = pd + 4294967296 * pe := by omega
      rw [← h1]
      have h2 : X = 18446744073709551616 * (X / 18446744073709551616) + X % 18446744073709551616 := by omega
      generalize X / 18446744073709551616 = q at h2
      generalize X % 18446744073709551616 = r at h2 ⊢
      have h3 : (18446744073709551616 : Nat) = 2 ^ s * (2 ^ (32 - s) * 4294967296) := by rw [← Nat.mul_assoc, hs2]
      rw [h2, h3, Nat.mul_assoc, Nat.mul_add_div hs1, Nat.mul_comm (2 ^ (32 - s)), Nat.mul_assoc, Nat.mul_add_mod]
    have hnew : val (x ++ [(((pd + 4294967296 * pe) / 2 ^ s % 4294967296 : Nat) : Int)]) = (val p / 2 ^ (32 * m) / 2 ^ s) % 2 ^ (32 * (i + 1)) := by
      rw [val_snoc, hx, hv, Int.toNat_natCast, ht, ← hX3]
      generalize val p / 2 ^ (32 * m) = Y
      rw [Nat.div_div_eq_div_mul, Nat.mul_comm (2 ^ (32 * i)) (2 ^ s), ← Nat.div_div_eq_div_mul, pow32_succ, Nat.mul_comm 4294967296, Nat.mod_mul]
    refine Ev.step (fun k => ?_) (ih (i + 1) _ (by omega) (by omega) (by simp [hx]) (hdx.append (Dg.one (by omega) (by omega))) hnew)
    rw [cuspref02_down.l1, if_pos (by omega), if_pos (by omega), w64_succ (by omega)]
    have hmin' : min (s : Int).toNat IntKind.u64.bits = s := by simp [IntKind.bits]; omega
    by_cases hl : m + i + 1 < p.length
    · rw [if_pos (by omega), if_pos (by omega), if_pos (by omega), if_pos (by omega), rd_nat, rd_nat, hpd, hpe, u64_of (x := (pd : Int)) (by omega) (by omega), u64_of (x := (pe : Int)) (by omega) (by omega), u64_of (x := (pe : Int) * 4294967296) (by omega) (by omega)]
      have e : bits .or .u64 (pd : Int) ((pe : Int) * 4294967296) = ((pd + 4294967296 * pe : Nat) : Int) := by
        rw [show (pe : Int) * 4294967296 = ((2 ^ 32 * pe : Nat) : Int) by omega, bits_or_u64_nat _ _ (by omega) (by omega), Nat.or_comm, or_add (by omega)]; omega
      unfold shr
      rw [e, hmin', show ((2 : Int) ^ s) = ((2 ^ s : Nat) : Int) by rw [Int.natCast_pow]; rfl, ← Int.natCast_ediv]
      rw [show (((pd + 4294967296 * pe) / 2 ^ s : Nat) : Int) % 4294967296 = (((pd + 4294967296 * pe) / 2 ^ s % 4294967296 : Nat) : Int) from by omega]
      rfl
    · have hpe0 : pe = 0 := by
        rw [List.getD_eq_getElem?_getD, List.getElem?_eq_none (by omega)] at hpe; simp at hpe; omega
      subst hpe0
      rw [if_neg (by omega), if_pos (by omega), if_pos (by omega), rd_nat, hpd, u64_of (x := (pd : Int)) (by omega) (by omega)]
      unfold shr
      rw [hmin', show ((2 : Int) ^ s) = ((2 ^ s : Nat) : Int) by rw [Int.natCast_pow]; rfl, ← Int.natCast_ediv]
      rw [show ((pd / 2 ^ s : Nat) : Int) % 4294967296 = ((pd / 2 ^ s % 4294967296 : Nat) : Int) from by omega]
      simp only [Nat.mul_zero, Nat.add_zero]
      rfl
theorem mask_u32 (d s : Nat) (hd : d < 4294967296) (hs : s < 32) : (bits .and .u32 (d : Int) (((shl .u32 1 (s : Int)) - 1) % 4294967296) == 0) = decide (d % 2 ^ s = 0) := by
  have hs2 : 2 ^ s ≤ 2147483648 := Nat.pow_le_pow_right (by omega) (show s ≤ 31 by omega)
  have hs1 : 0 < 2 ^ s := Nat.pow_pos (by omega)
  have hmin : min (s : Int).toNat IntKind.u32.bits = s := by simp [IntKind.bits]; omega
  have e1 : ((shl .u32 1 (s : Int)) - 1) % 4294967296 = ((2 ^ s - 1 : Nat) : Int) := by
    unfold shl
    rw [hmin, show (1 : Int) * 2 ^ s = ((2 ^ s : Nat) : Int) by rw [Int.one_mul, Int.natCast_pow]; rfl, u32_of (by omega) (by omega)]
    omega
  have h1 : ∀ x : Nat, x < 4294967296 → (BitVec.ofInt 32 (x : Int)).toNat = x := fun x hx => by
    rw [BitVec.ofInt_natCast, BitVec.toNat_ofNat]; exact Nat.mod_eq_of_lt (by omega)
  have e2 : bits .and .u32 (d : Int) ((2 ^ s - 1 : Nat) : Int) = ((d % 2 ^ s : Nat) : Int) := by
    show IntKind.u32.wrap ((BitVec.ofInt 32 (d : Int) &&& BitVec.ofInt 32 ((2 ^ s - 1 : Nat) : Int)).toNat : Int) = _
    rw [BitVec.toNat_and, h1 d hd, h1 _ (by omega), Nat.and_two_pow_sub_one_eq_mod]
    have h3 : d % 2 ^ s < 4294967296 := Nat.lt_trans (Nat.mod_lt d hs1) (by omega)
    generalize d % 2 ^ s = r at h3 ⊢
    exact u32_of (by omega) (by omega)
  rw [e1, e2]
  by_cases h : d % 2 ^ s = 0
  · rw [decide_eq_true h, h]; rfl
  · rw [decide_eq_false h]
    generalize d % 2 ^ s = r at h
    rw [beq_eq_false_iff_ne]; omega
theorem rdown_j1 (a n : Nat) (x6 : Bool) (hb : (dig a).length < 35184372088830) (hn : n < 4611686018427387904) (h6 : x6 = decide (val ((dig a).take (n / 32)) = 0)) :
    Ev (fun k => cuspref02_down.j1 k (dig a) (n : Int) x6) (dig (a / 2 ^ n), decide (a % 2 ^ n = 0)) := by
  have hp := dg_dig a
  have ew : wrap64 (Int.tdiv (n : Int) 32) = ((n / 32 : Nat) : Int) := by
    rw [Int.tdiv_eq_ediv_of_nonneg (by omega), show ((n : Int) / 32) = ((n / 32 : Nat) : Int) by omega, w64_nat (by omega)]
  have em : IntKind.u64.wrap (Int.tmod (n : Int) 32) = ((n % 32 : Nat) : Int) := by rw [Int.tmod_eq_emod_of_nonneg (by omega), u64_of (by omega) (by omega)]; omega
  by_cases hl : (dig a).length ≤ n / 32
  · have h1 : a < 2 ^ n := Nat.lt_of_lt_of_le (lt_dig_length a) (Nat.pow_le_pow_right (by omega) (by omega))
    rw [Nat.div_eq_of_lt h1, Nat.mod_eq_of_lt h1, dig_zero]
    rw [List.take_of_length_le hl, val_dig] at h6
    refine Ev.step (f := fun _ => some ([], x6)) (fun k => ?_) (h6 ▸ Ev.now _)
    rw [cuspref02_down.j1, ew, if_pos (by omega)]
  · have hs := val_drop_succ (dig a) (n / 32) (by omega)
    obtain ⟨d, hd, hd1⟩ := hp.nat (n / 32)
    rw [hd, Int.toNat_natCast] at hs
    have hsplit := val_take_drop (dig a) (n / 32) (by omega)
    rw [val_dig] at hsplit
    have hlt := val_lt (hp.take (n / 32))
    rw [List.length_take, Nat.min_eq_left (by omega)] at hlt
    have hpw : 2 ^ n = 2 ^ (32 * (n / 32)) * 2 ^ (n % 32) := by rw [← Nat.pow_add]; congr 1; omega
    have hdiv : a / 2 ^ n = val (dig a) / 2 ^ (32 * (n / 32)) / 2 ^ (n % 32) := by rw [val_dig, Nat.div_div_eq_div_mul, ← hpw]
    have hmod : a % 2 ^ n = 0 ↔ val ((dig a).take (n / 32)) = 0 ∧ d % 2 ^ (n % 32) = 0 := by
      have hV : val ((dig a).drop (n / 32)) % 2 ^ (n % 32) = d % 2 ^ (n % 32) := by
        rw [hs]
        have : (4294967296 : Nat) = 2 ^ (n % 32) * 2 ^ (32 - n % 32) := by rw [← Nat.pow_add, show n % 32 + (32 - n % 32) = 32 by omega]
        rw [this, Nat.mul_assoc, Nat.add_mul_mod_self_left]
      have hm : a % 2 ^ n = val ((dig a).take (n / 32)) + 2 ^ (32 * (n / 32)) * (d % 2 ^ (n % 32)) := by
        rw [hpw, Nat.mod_mul, ← hV]
        have e1 : a % 2 ^ (32 * (n / 32)) = val ((dig a).take (n / 32)) := by
          have := congrArg (· % 2 ^ (32 * (n / 32))) hsplit
          simp only [Nat.add_mul_mod_self_left, Nat.mod_eq_of_lt hlt] at this
          exact this
        have e2 : a / 2 ^ (32 * (n / 32)) = val ((dig a).drop (n / 32)) := by rw [val_drop hp, val_dig]
        rw [e1, e2]
      have hpp := pow32_pos (n / 32)
      rw [hm]
      constructor
      · intro h
        refine ⟨by omega, ?_⟩
        rcases Nat.mul_eq_zero.1 (show 2 ^ (32 * (n / 32)) * (d % 2 ^ (n % 32)) = 0 by omega) with h1 | h1
        · omega
        · exact h1
      · rintro ⟨h1, h2⟩; rw [h1, h2]; rfl
    have hfin : ∀ x : Bool, x = decide (a % 2 ^ n = 0) → Ev (fun k => cuspref02_down.j2 k (dig a) (n : Int) x ((n % 32 : Nat) : Int)) (dig (a / 2 ^ n), decide (a % 2 ^ n = 0)) := by
      intro x hx
      have h := rdown_l1 (dig a) (n % 32) (n / 32) x hp (by omega) (by omega) (by omega) _ 0 [] rfl (by omega) rfl Dg.nil (by rw [Nat.mul_zero, Nat.pow_zero, Nat.mod_one]; rfl)
      rw [← hdiv, hx] at h
      rw [hx]
      refine Ev.step (fun k => ?_) h
      rw [cuspref02_down.j2, ew]
      rfl
    by_cases h0 : val ((dig a).take (n / 32)) = 0
    · rw [decide_eq_true h0] at h6
      subst h6
      refine Ev.step (fun k => ?_) (hfin (decide (d % 2 ^ (n % 32) = 0)) (by simp only [hmod, h0, true_and]))
      rw [cuspref02_down.j1, ew, if_neg (by omega), if_pos rfl, em, if_pos (by omega), if_pos (by omega), if_pos (by omega), rd_nat, hd, mask_u32 d _ hd1 (by omega)]
    · rw [decide_eq_false h0] at h6
      subst h6
      refine Ev.step (fun k => ?_) (hfin false (by simp only [hmod, h0, false_and]; rfl))
      rw [cuspref02_down.j1, ew, if_neg (by omega), if_neg (by simp), em]
theorem rdown_ev (a n : Nat) (hb : (dig a).length < 35184372088830) (hn : n < 4611686018427387904) : ∀ (d i : Nat), d = n / 32 - i → i ≤ n / 32 → ∀ x6, x6 = decide (val ((dig a).take i) = 0) →
    Ev (fun k => cuspref02_down.l0 k (dig a) (n : Int) x6 (i : Int)) (dig (a / 2 ^ n), decide (a % 2 ^ n = 0)) := by
  have hp := dg_dig a
  have ew : wrap64 (Int.tdiv (n : Int) 32) = ((n / 32 : Nat) : Int) := by
    rw [Int.tdiv_eq_ediv_of_nonneg (by omega), show ((n : Int) / 32) = ((n / 32 : Nat) : Int) by omega, w64_nat (by omega)]
  intro d
  induction d with
  | zero =>
    intro i hd hi x6 h6
    have : i = n / 32 := by omega
    subst this
    refine Ev.step (fun k => ?_) (rdown_j1 a n x6 hb hn h6)
    rw [cuspref02_down.l0, ew]
    by_cases hl : n / 32 < (dig a).length
    · rw [if_pos (by omega), if_neg (by omega)]
    · rw [if_neg (by omega)]
  | succ d ih =>
    intro i hd hi x6 h6
    by_cases hl : i < (dig a).length
    · obtain ⟨g, hg, hg1⟩ := hp.nat i
      have hs := val_take_succ' (dig a) i
      rw [hg, Int.toNat_natCast] at hs
      have hpp := pow32_pos i
      by_cases h0 : val ((dig a).take i) = 0
      · rw [decide_eq_true h0] at h6
        subst h6
        refine Ev.step (fun k => ?_) (ih (i + 1) (by omega) (by omega) ((g : Int) == 0) ?_)
        · rw [cuspref02_down.l0, ew, if_pos (by omega), if_pos (by omega), if_pos rfl, if_pos (by omega), rd_nat, hg, w64_succ (by omega)]
        · rw [hs, h0, Nat.zero_add]
          by_cases h : g = 0
          · subst h; rfl
          · rw [decide_eq_false (by have := Nat.mul_pos hpp (show 0 < g by omega); omega)]; simp; omega
      · rw [decide_eq_false h0] at h6
        subst h6
        refine Ev.step (fun k => ?_) (ih (i + 1) (by omega) (by omega) false ?_)
        · rw [cuspref02_down.l0, ew, if_pos (by omega), if_pos (by omega), if_neg (by simp), w64_succ (by omega)]
        · rw [hs, decide_eq_false (by omega)]
    · refine Ev.step (fun k => ?_) (rdown_j1 a n x6 hb hn ?_)
      · rw [cuspref02_down.l0, if_neg (by omega)]
      · rw [h6, List.take_of_length_le (by omega), List.take_of_length_le (by omega)]
theorem rdown_law (a n : Nat) (hb : (dig a).length < 35184372088830) (hn : n < 4611686018427387904) : Ev (fun k => cuspref02_down.f k (dig a) (n : Int)) (dig (a / 2 ^ n), decide (a % 2 ^ n = 0)) :=
  rdown_ev a n hb hn _ 0 rfl (by omega) true (by simp)
end Go.Proofs.YthmeocigliephaaGreatDoor.Plain
end
section
namespace Go.Proofs.YthmeocigliephaaGreatDoor.Big
open Go.Proofs.YthmeocigliephaaGreatDoor.PSu Go.Proofs.YthmeocigliephaaGreatDoor.Plain
attribute [local go_sem] f64bits_run f64from_run max2_int min2_int max_two min_two
def RB (w : World) (g : Nat) (n : Bool) (v : Value) (e : Int) : Prop := w.heap[g]? = some (.cells #[.bool n, v, .int .i64 e] 41 (0, 0))
theorem RB.c0 {w : World} {g : Nat} {n : Bool} {v : Value} {e : Int} (h : RB w g n v e) : w.cell? ⟨g, 0, none⟩ = some (.bool n) := blk_cell h 0
theorem RB.c1 {w : World} {g : Nat} {n : Bool} {v : Value} {e : Int} (h : RB w g n v e) : w.cell? ⟨g, 1, none⟩ = some v := blk_cell h 1
theorem RB.c2 {w : World} {g : Nat} {n : Bool} {v : Value} {e : Int} (h : RB w g n v e) : w.cell? ⟨g, 2, none⟩ = some (.int .i64 e) := blk_cell h 2
theorem RB.fr {w : World} {g : Nat} {n : Bool} {v : Value} {e : Int} (h : RB w g n v e) (i : Nat) : w.frozen? ⟨g, i, none⟩ = false := blk_frozen h i
theorem RB.below {w w' : World} {g : Nat} {n : Bool} {v : Value} {e : Int} (h : RB w g n v e) (k : Below w.heap.size w w') : RB w' g n v e := blk_below h k
end Go.Proofs.YthmeocigliephaaGreatDoor.Big
end
section
namespace Go.Proofs.YthmeocigliephaaGreatDoor.Big
open Go.Proofs.YthmeocigliephaaGreatDoor.PSu Go.Proofs.YthmeocigliephaaGreatDoor.Plain
theorem roundV_eq (neg : Bool) (n : Nat) (e mode : Int) : roundV neg n e mode = signV neg (magV n e (if neg = true then mode == 1 else mode == 3) (mode == 2)) := by
  unfold roundV signV
  cases neg <;> simp
def IsO (l : List Int) (e : Int) : Prop := (l.length = 0 ∨ (dig (val l) = l ∧ val l % 2 = 1)) ∧ l.length ≤ 100000 ∧ -1000000 ≤ e ∧ e ≤ 1000000
instance instDecIsO (l : List Int) (e : Int) : Decidable (IsO l e) := inferInstanceAs (Decidable (_ ∧ _))
end Go.Proofs.YthmeocigliephaaGreatDoor.Big
namespace Go.Proofs.YthmeocigliephaaGreatDoor
open Go.Proofs.YthmeocigliephaaGreatDoor.PSu Go.Proofs.YthmeocigliephaaGreatDoor.Plain Go.Proofs.YthmeocigliephaaGreatDoor.Big
def cuspref02_To.f (a0_0 : Bool) (l0_1 : List Int) (a0_2 : Int) (a1 : Int) : Option Nat :=
  if IsO l0_1 a0_2 ∧ 1 ≤ a1 ∧ a1 ≤ 3 then some (if l0_1.length = 0 then 0 else roundV a0_0 (val l0_1) a0_2 a1) else none
end Go.Proofs.YthmeocigliephaaGreatDoor
end
section
namespace Go.Proofs.YthmeocigliephaaGreatDoor.PSu
attribute [local go_sem] f64bits_run f64from_run run_float_some max2_int min2_int max_two min_two max_three min_three max_four min_four
def cuspref03_R.f (a0_0 : Bool) (l0_1 : List Int) (a0_2 : Int) (a1 : Int) (a2 : Nat) : Option (Nat) := (cuspref02_Sgn.f a0_0 l0_1 a0_2).bind fun t295 => (if t295 = 0 then (some a2) else ((cuspref02_To.f a0_0 l0_1 a0_2 a1).bind fun t296 => (some t296)))
def cuspref03_Valid.f (a0 : Int) : Option (Int) := if a0 < 1 then (some 1) else (if a0 > 3 then (some 1) else (some 0))
def cuspref01_IsInf.f (a0 : Nat) : Option (Bool) := (cuspref01_mag.f a0).bind fun t297 => (some (t297 == 9218868437227405312))
theorem cuspref01_IsInf.calls (a0 : Nat) (r : Bool) (w : World) (h : cuspref01_IsInf.f a0 = some r) :
  Calls Tryz.prog 74 #[.float .f64 a0] w fun e w' => e = .returned (.bool r) ∧ Drawn0 w w' := by
 have H := h
 clear h
 unfold cuspref01_IsInf.f at H
 replace H := Option.bind_eq_some_iff.mp H
 obtain ⟨t297, A20, H⟩ := H
 have A2 := asd A20
 clear A20
 obtain rfl := Option.some.inj H
 go_enter Tryz.func74, Tryz.ntmps74
 go_wp2_with (first | ((with_reducible refine gate_callee (f := 62) rfl ?_); refine goesL_ (some 4) rfl rfl Tryz.func62 (by kernel_rfl) rfl #[.float .f64 a0] rfl eqA ?_; (with_reducible refine (cuspref01_mag.calls a0 t297 _ A2.out).mono ?_); rintro e w' ⟨rfl, ⟨nd, rfl⟩⟩; refine ⟨_, rfl, ?_⟩))
 go_ret
 exact ⟨eqB, dn0⟩
def cuspref05_Fault.l0 : Nat → List Nat → Int → Int → Option (Int)
 | 0, _, _, _ => none
 | k + 1, x0, x3, x4 => if x4 < (x0.length : Int) then (if 0 ≤ x4 then ((cuspref01_IsNaN.f (rdOf (0 : Nat) x0 x4)).bind fun t299 => (if t299 = true then (some 4) else ((cuspref01_IsInf.f (rdOf (0 : Nat) x0 x4)).bind fun t301 => (if t301 = true then (cuspref05_Fault.l0 k x0 5 (wrap64 (x4 + 1))) else (cuspref05_Fault.l0 k x0 x3 (wrap64 (x4 + 1))))))) else (none)) else (some x3)
def cuspref05_Fault.f (k : Nat) (l0 : List Nat) : Option (Int) := if (l0.length : Int) > 65536 then (some 2) else (cuspref05_Fault.l0 k l0 0 0)
def cuspref01_IsZero.f (a0 : Nat) : Option (Bool) := (cuspref01_mag.f a0).bind fun t302 => (some (t302 == 0))
def cuspref01_Neg.f (a0 : Nat) : Option (Bool) := (cuspref01_Bits.f a0).bind fun t303 => (some ((t303 / 9223372036854775808) == 1))
def cuspref02_twin.f (a0_0 : Bool) (l0_1 : List Int) (a0_2 : Int) : Option (Bool × List Int × Int) := if ([] : List Int).length + l0_1.length < 35184372088832 then (some (a0_0, (([] : List Int) ++ l0_1), a0_2)) else (none)
theorem cuspref02_twin.calls (a0_0 : Bool) (A0_1 : Option Addr) (c0_1 : Nat) (l0_1 : List Int) (a0_2 : Int) (r1 : Bool) (r2 : List Int) (r3 : Int) (w : World) (hr0_1 : Kd.C (Kd.int .u32) w A0_1 l0_1.length l0_1) (hc0_1 : l0_1.length ≤ c0_1) (h : cuspref02_twin.f a0_0 l0_1 a0_2 = some (r1, r2, r3)) :
  Calls Tryz.prog 63 #[.agg #[.bool a0_0, .slice A0_1 l0_1.length c0_1, .int .i64 a0_2]] w fun e w' => ∃ v1_ : Value, e = .returned (.agg #[.bool r1, v1_, .int .i64 r3]) ∧ Kd.R (Kd.int .u32) 83 w' w.heap.size (fun _ => True) v1_ r2 ∧ Below w.heap.size w w' := by
 have hu41 := Tryz.underlying41
 have HR0_1 := asd hr0_1
 have HC0_1 := asd hc0_1
 clear hr0_1 hc0_1
 have HB := asd (Below.refl w.heap.size w)
 have H := h
 clear h
 unfold cuspref02_twin.f at H
 by_cases c2 : ([] : List Int).length + l0_1.length < 35184372088832
 ·rw [if_pos c2] at H
  have LMc2 := asd c2
  clear c2
  obtain ⟨y306, hy306⟩ : ∃ y_ : List Int, y_ = (([] : List Int) ++ l0_1) := ⟨_, rfl⟩
  try rw [Option.bind_some] at H
  try rw [← hy306] at H
  have Ny306 := asd hy306
  clear hy306
  simp only [Option.some.injEq, Prod.mk.injEq] at H
  obtain ⟨rfl, rfl, rfl⟩ := H
  go_enter Tryz.func63, Tryz.ntmps63
  go_wp2_with (first | ((with_reducible refine gate_dst (N := 1) rfl ?_); refine box_ev (w := w) ?hg (N := 1) ?hd hbw (cs := #[.bool a0_0, .slice A0_1 l0_1.length c0_1, .int .i64 a0_2]) (t := 41) ?hr ?_; (case hd => rfl); (case hg => rfl); (case hr => first | (go_simp; done) | (go_simp; rfl)); clear HB; intro gb304 w3 HB BK304 GW304; have GE304 := GW304) | ((with_reducible refine gate_dst (N := 2) rfl ?_); refine box_event ?hg (N := 2) ?hd (cs := #[.bool false, .slice none 0 0, .int .i64 0]) (t := 41) ?hr ?_; (case hd => rfl); (case hg => rfl); (case hr => first | (go_simp; done) | (go_simp; rfl)); intro gb305 hg w4 hbox hb; have n0_ := asd (blk_below (g := gb304) (o := .cells #[.bool a0_0, .slice A0_1 l0_1.length c0_1, .int .i64 a0_2] 41 (0, 0)) (blkU BK304.out) hb); have n1_ := asd (below_step hbs hb); have n2_ := asd (hbox); have n3_ := asd ((by rw [hg]; exact (below_size hbs) : w.heap.size ≤ gb305)); have n4_ := asd ((by rw [hg]; exact (below_size hbs) : w.heap.size ≤ gb305)); have n5_ := asd ((by rw [hg]; exact Nat.ne_of_lt (blk_lt (g := gb304) (o := .cells #[.bool a0_0, .slice A0_1 l0_1.length c0_1, .int .i64 a0_2] 41 (0, 0)) (blkU BK304.out)) : gb304 ≠ gb305)); have n6_ := asd ((by rw [hg]; exact Nat.ne_of_gt (blk_lt (g := gb304) (o := .cells #[.bool a0_0, .slice A0_1 l0_1.length c0_1, .int .i64 a0_2] 41 (0, 0)) (blkU BK304.out)) : gb305 ≠ gb304)); clear BK304; clear HB; have BK304 := n0_; have HB := n1_; have BK305 := n2_; have GW305 := n3_; have GE305 := n4_; have NB304_305 := n5_; have NB305_304 := n6_; clear n0_ n1_ n2_ n3_ n4_ n5_ n6_; clear hb hbox hg; have hnb5 := NB304_305.out; have hnc5 := NB305_304.out; obtain ⟨hcz6_0, hcz6_1, hcz6_2, hfz6_0, hfz6_1, hfz6_2⟩ := cz3 BK304.out) | ((with_reducible refine gate_builtin (b := .append) (xs := #[.tmp 4, .tmp 6]) rfl ?_); at_builtin; refine Kd.R_append_rows (Kd.int .u32) (w0 := w) w.heap.size rfl (.tmp 4) (.tmp 6) 39 83 (.int .u32 0) 4 rfl Tryz.underlying39 info83 rfl (by decide) (by omega) (.slice none 0 0) ([] : List Int) l0_1 _ _ _ (fun _ => True) (fun _ => False) rfl rfl ?aO ?aR (fun _ _ h => h) (fun _ h => h.elim) ?aF ?aB ?aS ?aL ?_; (case aR => repeat (first | exact (Kd.C_below HR0_1.out HB.out) | (with_reducible refine Kd.C_alloc ?_ _) | (with_reducible refine Kd.C_drewN ?_ _) | (with_reducible refine Kd.C_drew ?_))); (case aB => exact hbs); (case aF => exact (fun _ _ => trivial)); (case aO => exact ((Kd.R_nil _ _ _ _ (fun _ => True)))); (case aS => exact (below_size hbs)); (case aL => have := LMc2.out; omega); intro v307 w7 ho hb hg hat; rw [← Ny306.out] at ho; have n0_ := asd (blk_grown (g := gb304) (o := .cells #[.bool a0_0, .slice A0_1 l0_1.length c0_1, .int .i64 a0_2] 41 (0, 0)) (blkU BK304.out) hg (by simp [Value.ownBlock])); have n1_ := asd (blk_grown (g := gb305) (o := .cells #[.bool false, .slice none 0 0, .int .i64 0] 41 (0, 0)) (blkU BK305.out) hg (by simp [Value.ownBlock])); have n2_ := asd (hb); have n3_ := asd (ho); clear BK304; clear BK305; clear HB; have BK304 := n0_; have BK305 := n1_; have HB := n2_; have HO308 := n3_; clear n0_ n1_ n2_ n3_; clear ho hb hg hat; obtain ⟨Ao8, co8, eo8⟩ := Kd.R_slice HO308.out; subst eo8; obtain ⟨hcz9_0, hcz9_1, hcz9_2, hfz9_0, hfz9_1, hfz9_2⟩ := cz3 BK304.out; obtain ⟨hcz10_0, hcz10_1, hcz10_2, hfz10_0, hfz10_1, hfz10_2⟩ := cz3 BK305.out))
  refine bodyPost_ret (results_cell_row rfl _ _ gb305 41 #[.bool a0_0, .slice Ao8 y306.length co8, .int .i64 a0_2] (0, 0) _ rfl (by (with_reducible repeat (first | refine blk_drewN ?_ _ | refine blk_drew ?_ | refine blk_alloc ?_ _)); refine blk_put (cs := #[.bool a0_0, .slice Ao8 y306.length co8, .int .i64 0]) ?_ 2 _ rfl; (with_reducible repeat (first | refine blk_drewN ?_ _ | refine blk_drew ?_ | refine blk_alloc ?_ _)); refine blk_put (cs := #[.bool a0_0, .slice none 0 0, .int .i64 0]) ?_ 1 _ rfl; (with_reducible repeat (first | refine blk_drewN ?_ _ | refine blk_drew ?_ | refine blk_alloc ?_ _)); refine blk_put (cs := #[.bool false, .slice none 0 0, .int .i64 0]) ?_ 0 _ rfl; (with_reducible repeat (first | refine blk_drewN ?_ _ | refine blk_drew ?_ | refine blk_alloc ?_ _)); refine blk_far ?_ NB305_304.out _; (with_reducible repeat (first | refine blk_drewN ?_ _ | refine blk_drew ?_ | refine blk_alloc ?_ _)); exact BK305.out) Tryz.underlying41 rfl (by kernel_rfl)) rfl ?_
  exact ⟨_, eqC, by (with_reducible repeat (first | apply Kd.R_alloc | apply Kd.R_drewN | apply Kd.R_drew)); exact Kd.R_mono (Kd.R_far (p := ⟨gb305, 2, none⟩) (Kd.R_far (p := ⟨gb305, 1, none⟩) (Kd.R_far (p := ⟨gb305, 0, none⟩) (Kd.R_far (p := ⟨gb304, 1, none⟩) (Kd.R_types (Kd.R_types HO308.out BK304.out (by decide)) BK305.out (by decide)) (fun _ hk => hk.1.2) (.slice Ao8 y306.length co8)) (fun _ hk => hk.2) (.bool a0_0)) (fun _ hk => hk.2) (.slice Ao8 y306.length co8)) (fun _ hk => hk.2) (.int .i64 a0_2)) (fun _ hk => trivial), hbs⟩
 ·rw [if_neg c2] at H
  exact absurd H (by simp)
mutual
def cuspref02_sum.l0 : Nat → List Int → List Int → List Int → Int → Int → Option (List Int)
 | 0, _, _, _, _, _ => none
 | k + 1, x0, x1, x5, x6, x7 => if x7 < (x0.length : Int) then (cuspref02_sum.j1 k x0 x1 x5 x6 x7 true) else (cuspref02_sum.j1 k x0 x1 x5 x6 x7 (decide (x7 < (x1.length : Int))))
def cuspref02_sum.j1 : Nat → List Int → List Int → List Int → Int → Int → Bool → Option (List Int)
 | 0, _, _, _, _, _, _ => none
 | k + 1, x0, x1, x5, x6, x7, x17 => if x17 = true then (if x7 < (x0.length : Int) then (if 0 ≤ x7 then (if x7 < (x1.length : Int) then (if x5.length < 35184372088832 then (cuspref02_sum.l0 k x0 x1 (x5 ++ [(IntKind.u64.wrap ((IntKind.u64.wrap (x6 + (IntKind.u64.wrap (rd x0 x7)))) + (IntKind.u64.wrap (rd x1 x7)))) % 4294967296]) ((IntKind.u64.wrap ((IntKind.u64.wrap (x6 + (IntKind.u64.wrap (rd x0 x7)))) + (IntKind.u64.wrap (rd x1 x7)))) / 4294967296) (wrap64 (x7 + 1))) else (none)) else (if x5.length < 35184372088832 then (cuspref02_sum.l0 k x0 x1 (x5 ++ [(IntKind.u64.wrap (x6 + (IntKind.u64.wrap (rd x0 x7)))) % 4294967296]) ((IntKind.u64.wrap (x6 + (IntKind.u64.wrap (rd x0 x7)))) / 4294967296) (wrap64 (x7 + 1))) else (none))) else (none)) else (if x7 < (x1.length : Int) then (if 0 ≤ x7 then (if x5.length < 35184372088832 then (cuspref02_sum.l0 k x0 x1 (x5 ++ [(IntKind.u64.wrap (x6 + (IntKind.u64.wrap (rd x1 x7)))) % 4294967296]) ((IntKind.u64.wrap (x6 + (IntKind.u64.wrap (rd x1 x7)))) / 4294967296) (wrap64 (x7 + 1))) else (none)) else (none)) else (if x5.length < 35184372088832 then (cuspref02_sum.l0 k x0 x1 (x5 ++ [(x6) % 4294967296]) (x6 / 4294967296) (wrap64 (x7 + 1))) else (none)))) else (if x6 > 0 then (if x5.length < 35184372088832 then (some (x5 ++ [(x6) % 4294967296])) else (none)) else (some x5))
end
def cuspref02_sum.f (k : Nat) (l0 : List Int) (l1 : List Int) : Option (List Int) := cuspref02_sum.l0 k l0 l1 ([] : List Int) 0 0
theorem cuspref02_sum.calls (k : Nat) (A0 : Option Addr) (c0 : Nat) (l0 : List Int) (A1 : Option Addr) (c1 : Nat) (l1 : List Int) (r : List Int) (w : World) (hr0 : Kd.C (Kd.int .u32) w A0 l0.length l0) (hc0 : l0.length ≤ c0) (hr1 : Kd.C (Kd.int .u32) w A1 l1.length l1) (hc1 : l1.length ≤ c1) (h : cuspref02_sum.f k l0 l1 = some r) :
  Calls Tryz.prog 66 #[.slice A0 l0.length c0, .slice A1 l1.length c1] w fun e w' => ∃ v0_ : Value, e = .returned (v0_) ∧ Kd.R (Kd.int .u32) 83 w' w.heap.size (fun _ => True) v0_ r ∧ Below w.heap.size w w' := by
 have HR0 := asd hr0
 have HC0 := asd hc0
 clear hr0 hc0
 have HR1 := asd hr1
 have HC1 := asd hc1
 clear hr1 hc1
 have HB := asd (Below.refl w.heap.size w)
 have H := h
 clear h
 unfold cuspref02_sum.f at H
 have H' := asd H
 clear H
 go_enter Tryz.func66, Tryz.ntmps66
 go_wp2
 go_loopg [5, 6, 7] k (fun kq v5 v6 v7 w' => ∃ (x5_1 : List Int) (x6_1 : Int) (x7_1 : Int), v6 = .int .u64 x6_1 ∧ v7 = .int .i64 x7_1 ∧ Aside0 (cuspref02_sum.l0 kq l0 l1 x5_1 x6_1 x7_1 = some r) ∧ Aside0 (kq ≤ k) ∧ Aside0 (Kd.R (Kd.int .u32) 83 w' w.heap.size (fun _ => True) v5 x5_1) ∧ Aside0 (Below w.heap.size w w'))
 case atStart => exact ⟨(([] : List Int)), (0), (0), eqB, eqB, H', ⟨Nat.le_refl _⟩, ⟨by first | exact Kd.R_nil _ _ _ _ _ | exact Kd.N_nil _ _ _ _ _ | exact Kd.V_nil _ _ _ _ _ | exact Kd.Q_nil _ _ _ _ _ | exact Kd.S_nil _ _ _ _ _⟩, ⟨hbw⟩⟩
 case round =>
  clear H'
  try clear c1
  try clear p2
  obtain ⟨x5_1, x6_1, x7_1, rfl, rfl, HA, HK1, HO_5, HB⟩ := hrel
  cases gk with
  | zero => exact absurd HA.out (by simp [cuspref02_sum.l0])
  | succ k1 =>
   have H := HA.out
   clear HA
   simp only [cuspref02_sum.l0] at H
   have HC3 := asd H
   clear H
   go_upto_region 4 with (fail)
   go_cut [17] (fun v17 wc => ∃ (kq : Nat) (x17_2 : Bool), v17 = .bool x17_2 ∧ Aside0 (cuspref02_sum.j1 kq l0 l1 x5_1 x6_1 x7_1 x17_2 = some r) ∧ Aside0 (kq ≤ k1) ∧ Aside0 (Kd.R (Kd.int .u32) 83 wc w.heap.size (fun _ => True) u5 x5_1) ∧ Aside0 (Below w.heap.size w wc))
   case first =>
    have H := HC3.out
    clear HC3
    by_cases c4 : x7_1 < (l0.length : Int)
    ·rw [if_pos c4] at H
     have c4b0 := decide_eq_true c4
     clear c4
     (first | rw [c4b0] | (simp only [i64_w, i32_w]; rw [c4b0]) | skip)
     have H' := asd H
     clear H
     go_wp2
     go_meet
     case rel => exact ⟨_, (true), eqB, H', ⟨by have := HK1.out; first | omega | exact Nat.le_refl _⟩, ⟨by (with_reducible repeat (first | apply Kd.R_alloc | apply Kd.R_drewN | apply Kd.R_drew)); exact HO_5.out⟩, ⟨hbw⟩⟩
    ·rw [if_neg c4] at H
     have c4b0 := decide_eq_false c4
     clear c4
     (first | rw [c4b0] | (simp only [i64_w, i32_w]; rw [c4b0]) | skip)
     have H' := asd H
     clear H
     go_wp2
     go_meet
     case rel => exact ⟨_, (decide (x7_1 < (l1.length : Int))), eqB, H', ⟨by have := HK1.out; first | omega | exact Nat.le_refl _⟩, ⟨by (with_reducible repeat (first | apply Kd.R_alloc | apply Kd.R_drewN | apply Kd.R_drew)); exact HO_5.out⟩, ⟨hbw⟩⟩
   case rest =>
    clear HC3
    try clear c1
    try clear p2
    try clear c4
    try clear c4b0
    try clear p2
    obtain ⟨kq, x17_2, rfl, HA, HJ2, HO_5, HB⟩ := hcut
    cases kq with
    | zero => exact absurd HA.out (by simp [cuspref02_sum.j1])
    | succ kj2 =>
     have H := HA.out
     clear HA
     simp only [cuspref02_sum.j1] at H
     by_cases c5 : x17_2 = true
     ·subst c5
      rw [if_pos rfl] at H
      by_cases c6 : x7_1 < (l0.length : Int)
      ·rw [if_pos c6] at H
       have c6b0 := decide_eq_true c6
       clear c6
       by_cases c7 : 0 ≤ x7_1
       ·rw [if_pos c7] at H
        have c7b0 := decide_eq_true c7
        clear c7
        by_cases c8 : x7_1 < (l1.length : Int)
        ·rw [if_pos c8] at H
         have c8b0 := decide_eq_true c8
         clear c8
         by_cases c9 : x5_1.length < 35184372088832
         ·rw [if_pos c9] at H
          have LMc9 := asd c9
          clear c9
          obtain ⟨y314, hy314⟩ : ∃ y_ : List Int, y_ = (x5_1 ++ [(IntKind.u64.wrap ((IntKind.u64.wrap (x6_1 + (IntKind.u64.wrap (rd l0 x7_1)))) + (IntKind.u64.wrap (rd l1 x7_1)))) % 4294967296]) := ⟨_, rfl⟩
          try rw [Option.bind_some] at H
          try rw [← hy314] at H
          have Ny314 := asd hy314
          clear hy314
          have H' := asd H
          clear H
          have p312 : 0 ≤ (x7_1 : Int) := odt
          have q312 : x7_1 < (l0.length : Int) := odt
          obtain ⟨ad312, e312, hx312_0⟩ := Kd.at_int HR0.out x7_1 p312 q312
          cases e312
          replace hx312_0 := (HB.out.cell (World.block_lt_of_cell? w _ hx312_0)).trans hx312_0
          replace p312 := eq_true p312
          replace q312 := eq_true q312
          have p313 : 0 ≤ (x7_1 : Int) := odt
          have q313 : x7_1 < (l1.length : Int) := odt
          obtain ⟨ad313, e313, hx313_0⟩ := Kd.at_int HR1.out x7_1 p313 q313
          cases e313
          replace hx313_0 := (HB.out.cell (World.block_lt_of_cell? w _ hx313_0)).trans hx313_0
          replace p313 := eq_true p313
          replace q313 := eq_true q313
          go_wp2_with (first | ((with_reducible refine gate_builtin (b := .append) (xs := #[.tmp 42, .tmp 45]) rfl ?_); (try (refine gate_guard (by rfl) ?_; dsimp only)); at_builtin; refine Kd.R_append (Kd.int .u32) (w0 := w) w.heap.size rfl (.tmp 42) (.tmp 45) 39 83 (.int .u32 0) 4 rfl Tryz.underlying39 info83 rfl (by decide) (by omega) u5 x5_1 ((IntKind.u64.wrap ((IntKind.u64.wrap (x6_1 + (IntKind.u64.wrap (rd l0 x7_1)))) + (IntKind.u64.wrap (rd l1 x7_1)))) % 4294967296) [.int .u32 ((IntKind.u64.wrap ((IntKind.u64.wrap (x6_1 + (IntKind.u64.wrap (rd l0 x7_1)))) + (IntKind.u64.wrap (rd l1 x7_1)))) % 4294967296)] (fun _ => True) (fun _ => False) rfl rfl ?aP (fun _ hk => hk.elim) ?aF ?aO ?aB ?aS ?aL ?_; (case aP => exact rfl); (case aB => exact hbw); (case aF => exact (fun _ _ => trivial)); (case aO => exact (rUp HO_5.out)); (case aS => exact (below_size hbw)); (case aL => have := LMc9.out; omega); intro v315 w10 ho hb hg hat; rw [← Ny314.out] at ho; have n0_ := asd (hb); have n1_ := asd (ho); clear HB; clear HO_5; have HB := n0_; have HO316 := n1_; clear n0_ n1_; clear ho hb hg hat))
          go_roundg kj2
          case measure => have := HK1.out; have := HJ2.out; omega
          case rel => exact ⟨(y314), ((IntKind.u64.wrap ((IntKind.u64.wrap (x6_1 + (IntKind.u64.wrap (rd l0 x7_1)))) + (IntKind.u64.wrap (rd l1 x7_1)))) / 4294967296), (wrap64 (x7_1 + 1)), eqB, eqB, H', ⟨by have := HK1.out; have := HJ2.out; omega⟩, ⟨by (with_reducible repeat (first | apply Kd.R_alloc | apply Kd.R_drewN | apply Kd.R_drew)); exact HO316.out⟩, ⟨hbw⟩⟩
         ·rw [if_neg c9] at H
          exact absurd H (by simp)
        ·rw [if_neg c8] at H
         have c8b0 := decide_eq_false c8
         clear c8
         by_cases c11 : x5_1.length < 35184372088832
         ·rw [if_pos c11] at H
          have LMc11 := asd c11
          clear c11
          obtain ⟨y317, hy317⟩ : ∃ y_ : List Int, y_ = (x5_1 ++ [(IntKind.u64.wrap (x6_1 + (IntKind.u64.wrap (rd l0 x7_1)))) % 4294967296]) := ⟨_, rfl⟩
          try rw [Option.bind_some] at H
          try rw [← hy317] at H
          have Ny317 := asd hy317
          clear hy317
          have H' := asd H
          clear H
          have p312 : 0 ≤ (x7_1 : Int) := odt
          have q312 : x7_1 < (l0.length : Int) := odt
          obtain ⟨ad312, e312, hx312_0⟩ := Kd.at_int HR0.out x7_1 p312 q312
          cases e312
          replace hx312_0 := (HB.out.cell (World.block_lt_of_cell? w _ hx312_0)).trans hx312_0
          replace p312 := eq_true p312
          replace q312 := eq_true q312
          go_wp2_with (first | ((with_reducible refine gate_builtin (b := .append) (xs := #[.tmp 42, .tmp 45]) rfl ?_); (try (refine gate_guard (by rfl) ?_; dsimp only)); at_builtin; refine Kd.R_append (Kd.int .u32) (w0 := w) w.heap.size rfl (.tmp 42) (.tmp 45) 39 83 (.int .u32 0) 4 rfl Tryz.underlying39 info83 rfl (by decide) (by omega) u5 x5_1 ((IntKind.u64.wrap (x6_1 + (IntKind.u64.wrap (rd l0 x7_1)))) % 4294967296) [.int .u32 ((IntKind.u64.wrap (x6_1 + (IntKind.u64.wrap (rd l0 x7_1)))) % 4294967296)] (fun _ => True) (fun _ => False) rfl rfl ?aP (fun _ hk => hk.elim) ?aF ?aO ?aB ?aS ?aL ?_; (case aP => exact rfl); (case aB => exact hbw); (case aF => exact (fun _ _ => trivial)); (case aO => exact (rUp HO_5.out)); (case aS => exact (below_size hbw)); (case aL => have := LMc11.out; omega); intro v318 w12 ho hb hg hat; rw [← Ny317.out] at ho; have n0_ := asd (hb); have n1_ := asd (ho); clear HB; clear HO_5; have HB := n0_; have HO319 := n1_; clear n0_ n1_; clear ho hb hg hat))
          go_roundg kj2
          case measure => have := HK1.out; have := HJ2.out; omega
          case rel => exact ⟨(y317), ((IntKind.u64.wrap (x6_1 + (IntKind.u64.wrap (rd l0 x7_1)))) / 4294967296), (wrap64 (x7_1 + 1)), eqB, eqB, H', ⟨by have := HK1.out; have := HJ2.out; omega⟩, ⟨by (with_reducible repeat (first | apply Kd.R_alloc | apply Kd.R_drewN | apply Kd.R_drew)); exact HO319.out⟩, ⟨hbw⟩⟩
         ·rw [if_neg c11] at H
          exact absurd H (by simp)
       ·rw [if_neg c7] at H
        exact absurd H (by simp)
      ·rw [if_neg c6] at H
       have c6b0 := decide_eq_false c6
       clear c6
       by_cases c13 : x7_1 < (l1.length : Int)
       ·rw [if_pos c13] at H
        have c13b0 := decide_eq_true c13
        clear c13
        by_cases c14 : 0 ≤ x7_1
        ·rw [if_pos c14] at H
         have c14b0 := decide_eq_true c14
         clear c14
         by_cases c15 : x5_1.length < 35184372088832
         ·rw [if_pos c15] at H
          have LMc15 := asd c15
          clear c15
          obtain ⟨y321, hy321⟩ : ∃ y_ : List Int, y_ = (x5_1 ++ [(IntKind.u64.wrap (x6_1 + (IntKind.u64.wrap (rd l1 x7_1)))) % 4294967296]) := ⟨_, rfl⟩
          try rw [Option.bind_some] at H
          try rw [← hy321] at H
          have Ny321 := asd hy321
          clear hy321
          have H' := asd H
          clear H
          have p320 : 0 ≤ (x7_1 : Int) := odt
          have q320 : x7_1 < (l1.length : Int) := odt
          obtain ⟨ad320, e320, hx320_0⟩ := Kd.at_int HR1.out x7_1 p320 q320
          cases e320
          replace hx320_0 := (HB.out.cell (World.block_lt_of_cell? w _ hx320_0)).trans hx320_0
          replace p320 := eq_true p320
          replace q320 := eq_true q320
          go_wp2_with (first | ((with_reducible refine gate_builtin (b := .append) (xs := #[.tmp 42, .tmp 45]) rfl ?_); (try (refine gate_guard (by rfl) ?_; dsimp only)); at_builtin; refine Kd.R_append (Kd.int .u32) (w0 := w) w.heap.size rfl (.tmp 42) (.tmp 45) 39 83 (.int .u32 0) 4 rfl Tryz.underlying39 info83 rfl (by decide) (by omega) u5 x5_1 ((IntKind.u64.wrap (x6_1 + (IntKind.u64.wrap (rd l1 x7_1)))) % 4294967296) [.int .u32 ((IntKind.u64.wrap (x6_1 + (IntKind.u64.wrap (rd l1 x7_1)))) % 4294967296)] (fun _ => True) (fun _ => False) rfl rfl ?aP (fun _ hk => hk.elim) ?aF ?aO ?aB ?aS ?aL ?_; (case aP => exact rfl); (case aB => exact hbw); (case aF => exact (fun _ _ => trivial)); (case aO => exact (rUp HO_5.out)); (case aS => exact (below_size hbw)); (case aL => have := LMc15.out; omega); intro v322 w16 ho hb hg hat; rw [← Ny321.out] at ho; have n0_ := asd (hb); have n1_ := asd (ho); clear HB; clear HO_5; have HB := n0_; have HO323 := n1_; clear n0_ n1_; clear ho hb hg hat))
          go_roundg kj2
          case measure => have := HK1.out; have := HJ2.out; omega
          case rel => exact ⟨(y321), ((IntKind.u64.wrap (x6_1 + (IntKind.u64.wrap (rd l1 x7_1)))) / 4294967296), (wrap64 (x7_1 + 1)), eqB, eqB, H', ⟨by have := HK1.out; have := HJ2.out; omega⟩, ⟨by (with_reducible repeat (first | apply Kd.R_alloc | apply Kd.R_drewN | apply Kd.R_drew)); exact HO323.out⟩, ⟨hbw⟩⟩
         ·rw [if_neg c15] at H
          exact absurd H (by simp)
        ·rw [if_neg c14] at H
         exact absurd H (by simp)
       ·rw [if_neg c13] at H
        have c13b0 := decide_eq_false c13
        clear c13
        by_cases c17 : x5_1.length < 35184372088832
        ·rw [if_pos c17] at H
         have LMc17 := asd c17
         clear c17
         obtain ⟨y324, hy324⟩ : ∃ y_ : List Int, y_ = (x5_1 ++ [(x6_1) % 4294967296]) := ⟨_, rfl⟩
         try rw [Option.bind_some] at H
         try rw [← hy324] at H
         have Ny324 := asd hy324
         clear hy324
         have H' := asd H
         clear H
         go_wp2_with (first | ((with_reducible refine gate_builtin (b := .append) (xs := #[.tmp 42, .tmp 45]) rfl ?_); (try (refine gate_guard (by rfl) ?_; dsimp only)); at_builtin; refine Kd.R_append (Kd.int .u32) (w0 := w) w.heap.size rfl (.tmp 42) (.tmp 45) 39 83 (.int .u32 0) 4 rfl Tryz.underlying39 info83 rfl (by decide) (by omega) u5 x5_1 ((x6_1) % 4294967296) [.int .u32 ((x6_1) % 4294967296)] (fun _ => True) (fun _ => False) rfl rfl ?aP (fun _ hk => hk.elim) ?aF ?aO ?aB ?aS ?aL ?_; (case aP => exact rfl); (case aB => exact hbw); (case aF => exact (fun _ _ => trivial)); (case aO => exact (rUp HO_5.out)); (case aS => exact (below_size hbw)); (case aL => have := LMc17.out; omega); intro v325 w18 ho hb hg hat; rw [← Ny324.out] at ho; have n0_ := asd (hb); have n1_ := asd (ho); clear HB; clear HO_5; have HB := n0_; have HO326 := n1_; clear n0_ n1_; clear ho hb hg hat))
         go_roundg kj2
         case measure => have := HK1.out; have := HJ2.out; omega
         case rel => exact ⟨(y324), (x6_1 / 4294967296), (wrap64 (x7_1 + 1)), eqB, eqB, H', ⟨by have := HK1.out; have := HJ2.out; omega⟩, ⟨by (with_reducible repeat (first | apply Kd.R_alloc | apply Kd.R_drewN | apply Kd.R_drew)); exact HO326.out⟩, ⟨hbw⟩⟩
        ·rw [if_neg c17] at H
         exact absurd H (by simp)
     ·replace c5 := Bool.eq_false_iff.mpr c5
      subst c5
      rw [if_neg (show ¬ (false = true) by decide)] at H
      by_cases c19 : x6_1 > 0
      ·rw [if_pos c19] at H
       have c19b0 := decide_eq_true c19
       clear c19
       by_cases c20 : x5_1.length < 35184372088832
       ·rw [if_pos c20] at H
        have LMc20 := asd c20
        clear c20
        obtain ⟨y309, hy309⟩ : ∃ y_ : List Int, y_ = (x5_1 ++ [(x6_1) % 4294967296]) := ⟨_, rfl⟩
        try rw [Option.bind_some] at H
        try rw [← hy309] at H
        have Ny309 := asd hy309
        clear hy309
        obtain rfl := Option.some.inj H
        go_wp2_with (first | ((with_reducible refine gate_builtin (b := .append) (xs := #[.tmp 51, .tmp 54]) rfl ?_); (try (refine gate_guard (by rfl) ?_; dsimp only)); at_builtin; refine Kd.R_append (Kd.int .u32) (w0 := w) w.heap.size rfl (.tmp 51) (.tmp 54) 39 83 (.int .u32 0) 4 rfl Tryz.underlying39 info83 rfl (by decide) (by omega) u5 x5_1 ((x6_1) % 4294967296) [.int .u32 ((x6_1) % 4294967296)] (fun _ => True) (fun _ => False) rfl rfl ?aP (fun _ hk => hk.elim) ?aF ?aO ?aB ?aS ?aL ?_; (case aP => exact rfl); (case aB => exact hbw); (case aF => exact (fun _ _ => trivial)); (case aO => exact (rUp HO_5.out)); (case aS => exact (below_size hbw)); (case aL => have := LMc20.out; omega); intro v310 w21 ho hb hg hat; rw [← Ny309.out] at ho; have n0_ := asd (hb); have n1_ := asd (ho); clear HB; clear HO_5; have HB := n0_; have HO311 := n1_; clear n0_ n1_; clear ho hb hg hat))
        go_ret
        exact ⟨_, eqC, by (with_reducible repeat (first | apply Kd.R_alloc | apply Kd.R_drewN | apply Kd.R_drew)); exact HO311.out, hbw⟩
       ·rw [if_neg c20] at H
        exact absurd H (by simp)
      ·rw [if_neg c19] at H
       have c19b0 := decide_eq_false c19
       clear c19
       obtain rfl := Option.some.inj H
       go_wp2
       go_ret
       exact ⟨_, eqC, by (with_reducible repeat (first | apply Kd.R_alloc | apply Kd.R_drewN | apply Kd.R_drew)); exact HO_5.out, hbw⟩
def cuspref02_norm.l0 : Nat → Bool → List Int → Int → Int → Option (Bool × List Int × Int)
 | 0, _, _, _, _ => none
 | k + 1, x0, x1, x2, x7 => if 0 ≤ (wrap64 (Int.tdiv x7 32)) then (if (wrap64 (Int.tdiv x7 32)) < (x1.length : Int) then (if 0 ≤ (IntKind.u64.wrap (Int.tmod x7 32)) then (if (Go.bits .and .u32 (shr .u32 (rd x1 (wrap64 (Int.tdiv x7 32))) (IntKind.u64.wrap (Int.tmod x7 32))) 1) = 0 then (cuspref02_norm.l0 k x0 x1 x2 (wrap64 (x7 + 1))) else ((cuspref02_down.f k x1 x7).bind fun bt332 => (if 0 ≤ 70368744177664 then ((some (List.replicate 0 0 : List Int)).bind fun y336 => (if y336.length + bt332.1.length < 35184372088832 then (some (x0, (y336 ++ bt332.1), wrap64 (x2 + x7))) else (none))) else (none)))) else (none)) else (none)) else (none)
def cuspref02_norm.f (k : Nat) (a0 : Bool) (l1 : List Int) (a2 : Int) : Option (Bool × List Int × Int) := (cuspref02_trim.f k l1).bind fun t328 => (if (t328.length : Int) = 0 then (some (false, ([] : List Int), 0)) else (cuspref02_norm.l0 k a0 t328 a2 0))
theorem cuspref02_norm.calls (k : Nat) (a0 : Bool) (P1_ : Nat → Prop) (u9000_ : Value) (l1 : List Int) (a2 : Int) (r1 : Bool) (r2 : List Int) (r3 : Int) (w0 w : World) (hB : Below w0.heap.size w0 w) (ho1 : Kd.R (Kd.int .u32) 83 w w0.heap.size P1_ u9000_ l1) (h : cuspref02_norm.f k a0 l1 a2 = some (r1, r2, r3)) :
  Calls Tryz.prog 65 #[.bool a0, u9000_, .int .i64 a2] w fun e w' => ∃ v1_ : Value, e = .returned (.agg #[.bool r1, v1_, .int .i64 r3]) ∧ Kd.R (Kd.int .u32) 83 w' w0.heap.size (fun k_ => (P1_ k_ ∨ w.heap.size ≤ k_)) v1_ r2 ∧ Below w0.heap.size w0 w' ∧ Kept w w' (fun k_ => P1_ k_) := by
 have hu41 := Tryz.underlying41
 have HO1 := asd (show Kd.R (Kd.int .u32) 83 w w0.heap.size (fun k_ => (P1_ k_ ∨ w.heap.size ≤ k_)) u9000_ l1 from Kd.R_mono ho1 (fun k_ hk => (.inl hk)))
 have HK := asd (Kept.refl w (fun k_ => P1_ k_))
 have HW0 := asd hB.size
 have HB := asd hB
 clear hB
 have H := h
 clear h
 unfold cuspref02_norm.f at H
 replace H := Option.bind_eq_some_iff.mp H
 obtain ⟨t328, A40, H⟩ := H
 have A4 := asd A40
 clear A40
 by_cases c5 : (t328.length : Int) = 0
 ·rw [if_pos c5] at H
  have c5b0 := beq_iff_eq.mpr c5
  have c5b1 := bne_eq_false_iff_eq.mpr c5
  clear c5
  simp only [Option.some.injEq, Prod.mk.injEq] at H
  obtain ⟨rfl, rfl, rfl⟩ := H
  go_enter Tryz.func65, Tryz.ntmps65
  go_wp2_with (first | ((with_reducible refine gate_dst (N := 6) rfl ?_); refine box_event ?hg (N := 6) ?hd (cs := #[.bool false, .slice none 0 0, .int .i64 0]) (t := 41) ?hr ?_; (case hd => rfl); (case hg => rfl); (case hr => first | (go_simp; done) | (go_simp; rfl)); intro gb327 hg w6 hbox hb; have n0_ := asd (Kd.R_below (rUp HO1.out) hb); have n1_ := asd (Kept.below (S := (fun k_ => P1_ k_)) (by repeat (first | (with_reducible first | exact HK.out | apply Kept.alloc | apply Kept.drewN | apply Kept.drew) | exact HK.out)) hb); have n2_ := asd (below_step hbw hb); have n3_ := asd (hbox); have n4_ := asd ((by rw [hg]; exact (by first | exact HK.out.1 | exact (show Kept w _ (fun k_ => P1_ k_) from by repeat (first | (with_reducible first | exact HK.out | apply Kept.alloc | apply Kept.drewN | apply Kept.drew) | exact HK.out)).1) : w.heap.size ≤ gb327)); have n5_ := asd ((by rw [hg]; exact (below_size hbw) : w0.heap.size ≤ gb327)); clear HO1; clear HK; clear HB; have HO1 := n0_; have HK := n1_; have HB := n2_; have BK327 := n3_; have GW327 := n4_; have GE327 := n5_; clear n0_ n1_ n2_ n3_ n4_ n5_; clear hb hbox hg; obtain ⟨Ao7, co7, eo7⟩ := Kd.R_slice HO1.out; subst eo7) | ((with_reducible refine gate_callee (f := 99) rfl ?_); refine goesL_ (some 11) rfl rfl Tryz.func99 (by kernel_rfl) rfl #[.slice Ao7 l1.length co7] rfl eqA ?_; (with_reducible refine (cuspref02_trim.calls k (fun k_ => some k_ = (.slice Ao7 l1.length co7 : Value).ownBlock) (.slice Ao7 l1.length co7) l1 t328 w0 _ ?side1 ?side2 A4.out).mono ?_); (case side1 => repeat (first | (with_reducible first | exact HB.out | apply below_alloc | apply pw_below_drewN | apply below_drew1 | refine below_set ?_ GE327.out) | exact HB.out)); (case side2 => exact Kd.R_tight rfl HO1.out); rintro e w8 ⟨v329, rfl, ho0, hb, hkp⟩; refine ⟨_, rfl, ?_⟩; have n0_ := asd (blk_kept (blkU BK327.out) hkp (fun hs_ => (fun e_ => (Kd.R_ne HO1.out BK327.out (by decide)) e_) hs_)); have n1_ := asd (Kd.R_mono (ok' := fun k_ => (P1_ k_ ∨ w.heap.size ≤ k_)) ho0 (fun k_ hk_ => Or.elim hk_ (fun hs_ => (HO1.out.1 k_ (hs_).symm)) (fun hn_ => (.inr (Nat.le_trans (by first | exact HK.out.1 | exact (show Kept w _ (fun k_ => P1_ k_) from by repeat (first | (with_reducible first | exact HK.out | apply Kept.alloc | apply Kept.drewN | apply Kept.drew | refine Kept.setCell ?_ (.inr GW327.out) _) | exact HK.out)).1) hn_))))); have n2_ := asd (Kept.then_ (S := (fun k_ => P1_ k_)) (by repeat (first | (with_reducible first | exact HK.out | apply Kept.alloc | apply Kept.drewN | apply Kept.drew | refine Kept.setCell ?_ (.inr GW327.out) _) | exact HK.out)) hkp (fun k_ hs_ => (fun e_ => (HO1.out.1 k_ e_.symm)) hs_)); have n3_ := asd (hb); clear BK327; clear HK; clear HB; clear HO1; have BK327 := n0_; have HO330 := n1_; have HK := n2_; have HB := n3_; clear n0_ n1_ n2_ n3_; (try clear hb); (try clear hkp); (try clear ho0); obtain ⟨Ao9, co9, eo9⟩ := Kd.R_slice HO330.out; subst eo9; obtain ⟨hcz10_0, hcz10_1, hcz10_2, hfz10_0, hfz10_1, hfz10_2⟩ := cz3 BK327.out))
  refine bodyPost_ret (results_cell_row rfl _ _ gb327 41 #[.bool false, .slice none 0 0, .int .i64 0] (0, 0) _ rfl (by (with_reducible repeat (first | refine blk_drewN ?_ _ | refine blk_drew ?_ | refine blk_alloc ?_ _)); refine blk_put (cs := #[.bool false, .slice none 0 0, .int .i64 0]) ?_ 2 _ rfl; (with_reducible repeat (first | refine blk_drewN ?_ _ | refine blk_drew ?_ | refine blk_alloc ?_ _)); refine blk_put (cs := #[.bool false, .slice none 0 0, .int .i64 0]) ?_ 1 _ rfl; (with_reducible repeat (first | refine blk_drewN ?_ _ | refine blk_drew ?_ | refine blk_alloc ?_ _)); refine blk_put (cs := #[.bool false, .slice none 0 0, .int .i64 0]) ?_ 0 _ rfl; (with_reducible repeat (first | refine blk_drewN ?_ _ | refine blk_drew ?_ | refine blk_alloc ?_ _)); exact BK327.out) Tryz.underlying41 rfl (by kernel_rfl)) rfl ?_
  exact ⟨_, eqC, by first | exact Kd.R_nil _ _ _ _ _ | exact Kd.N_nil _ _ _ _ _ | exact Kd.V_nil _ _ _ _ _ | exact Kd.Q_nil _ _ _ _ _ | exact Kd.S_nil _ _ _ _ _, hbs, by repeat (first | (with_reducible first | exact HK.out | apply Kept.alloc | apply Kept.drewN | apply Kept.drew | refine Kept.setCell ?_ (.inr GW327.out) _) | exact HK.out)⟩
 ·rw [if_neg c5] at H
  have c5b0 := beq_eq_false_iff_ne.mpr c5
  have c5b1 := bne_iff_ne.mpr c5
  have c5b2 : ¬ (t328 = []) := fun h_ => c5 (by rw [h_]; rfl)
  have H' := asd H
  clear H
  go_enter Tryz.func65, Tryz.ntmps65
  go_wp2_with (first | ((with_reducible refine gate_dst (N := 6) rfl ?_); refine box_event ?hg (N := 6) ?hd (cs := #[.bool false, .slice none 0 0, .int .i64 0]) (t := 41) ?hr ?_; (case hd => rfl); (case hg => rfl); (case hr => first | (go_simp; done) | (go_simp; rfl)); intro gb327 hg w11 hbox hb; have n0_ := asd (Kd.R_below (rUp HO1.out) hb); have n1_ := asd (Kept.below (S := (fun k_ => P1_ k_)) (by repeat (first | (with_reducible first | exact HK.out | apply Kept.alloc | apply Kept.drewN | apply Kept.drew) | exact HK.out)) hb); have n2_ := asd (below_step hbw hb); have n3_ := asd (hbox); have n4_ := asd ((by rw [hg]; exact (by first | exact HK.out.1 | exact (show Kept w _ (fun k_ => P1_ k_) from by repeat (first | (with_reducible first | exact HK.out | apply Kept.alloc | apply Kept.drewN | apply Kept.drew) | exact HK.out)).1) : w.heap.size ≤ gb327)); have n5_ := asd ((by rw [hg]; exact (below_size hbw) : w0.heap.size ≤ gb327)); clear HO1; clear HK; clear HB; have HO1 := n0_; have HK := n1_; have HB := n2_; have BK327 := n3_; have GW327 := n4_; have GE327 := n5_; clear n0_ n1_ n2_ n3_ n4_ n5_; clear hb hbox hg; obtain ⟨Ao12, co12, eo12⟩ := Kd.R_slice HO1.out; subst eo12) | ((with_reducible refine gate_callee (f := 99) rfl ?_); refine goesL_ (some 11) rfl rfl Tryz.func99 (by kernel_rfl) rfl #[.slice Ao12 l1.length co12] rfl eqA ?_; (with_reducible refine (cuspref02_trim.calls k (fun k_ => some k_ = (.slice Ao12 l1.length co12 : Value).ownBlock) (.slice Ao12 l1.length co12) l1 t328 w0 _ ?side1 ?side2 A4.out).mono ?_); (case side1 => repeat (first | (with_reducible first | exact HB.out | apply below_alloc | apply pw_below_drewN | apply below_drew1 | refine below_set ?_ GE327.out) | exact HB.out)); (case side2 => exact Kd.R_tight rfl HO1.out); rintro e w13 ⟨v329, rfl, ho0, hb, hkp⟩; refine ⟨_, rfl, ?_⟩; have n0_ := asd (blk_kept (blkU BK327.out) hkp (fun hs_ => (fun e_ => (Kd.R_ne HO1.out BK327.out (by decide)) e_) hs_)); have n1_ := asd (Kd.R_mono (ok' := fun k_ => (P1_ k_ ∨ w.heap.size ≤ k_)) ho0 (fun k_ hk_ => Or.elim hk_ (fun hs_ => (HO1.out.1 k_ (hs_).symm)) (fun hn_ => (.inr (Nat.le_trans (by first | exact HK.out.1 | exact (show Kept w _ (fun k_ => P1_ k_) from by repeat (first | (with_reducible first | exact HK.out | apply Kept.alloc | apply Kept.drewN | apply Kept.drew | refine Kept.setCell ?_ (.inr GW327.out) _) | exact HK.out)).1) hn_))))); have n2_ := asd (Kept.then_ (S := (fun k_ => P1_ k_)) (by repeat (first | (with_reducible first | exact HK.out | apply Kept.alloc | apply Kept.drewN | apply Kept.drew | refine Kept.setCell ?_ (.inr GW327.out) _) | exact HK.out)) hkp (fun k_ hs_ => (fun e_ => (HO1.out.1 k_ e_.symm)) hs_)); have n3_ := asd (hb); clear BK327; clear HK; clear HB; clear HO1; have BK327 := n0_; have HO330 := n1_; have HK := n2_; have HB := n3_; clear n0_ n1_ n2_ n3_; (try clear hb); (try clear hkp); (try clear ho0); obtain ⟨Ao14, co14, eo14⟩ := Kd.R_slice HO330.out; subst eo14))
  go_loopg [7] k (fun kq v7 w' => ∃ (x7_1 : Int), v7 = .int .i64 x7_1 ∧ Aside0 (cuspref02_norm.l0 kq a0 t328 a2 x7_1 = some (r1, r2, r3)) ∧ Aside0 (kq ≤ k) ∧ Aside0 (Kd.R (Kd.int .u32) 83 w' w0.heap.size (fun k_ => (P1_ k_ ∨ w.heap.size ≤ k_)) (.slice Ao14 t328.length co14) t328) ∧ Aside0 (w'.heap[gb327]? = some (.cells #[.bool false, (.slice none 0 0), .int .i64 0] 41 (0, 0))) ∧ Aside0 (Kept w w' (fun k_ => P1_ k_)) ∧ Aside0 (Below w0.heap.size w0 w'))
  case atStart => exact ⟨(0), eqB, H', ⟨Nat.le_refl _⟩, ⟨by (with_reducible repeat (first | apply Kd.R_alloc | apply Kd.R_drewN | apply Kd.R_drew)); exact HO330.out⟩, ⟨by (with_reducible repeat (first | refine blk_drewN ?_ _ | refine blk_drew ?_ | refine blk_alloc ?_ _)); exact BK327.out⟩, ⟨by repeat (first | (with_reducible first | exact HK.out | apply Kept.alloc | apply Kept.drewN | apply Kept.drew | refine Kept.setCell ?_ (.inr GW327.out) _) | exact HK.out)⟩, ⟨hbs⟩⟩
  case round =>
   clear H'
   try clear p2
   try clear c5
   try clear c5b0
   try clear c5b1
   try clear c5b2
   try clear c6
   try clear c9
   try clear hcz10_0
   try clear hcz10_1
   try clear hcz10_2
   try clear hfz10_0
   try clear hfz10_1
   try clear hfz10_2
   obtain ⟨x7_1, rfl, HA, HK1, HO_1, BK327, HK, HB⟩ := hrel
   cases gk with
   | zero => exact absurd HA.out (by simp [cuspref02_norm.l0])
   | succ k1 =>
    have H := HA.out
    clear HA
    simp only [cuspref02_norm.l0] at H
    obtain ⟨ji15, hji15⟩ : ∃ j_ : Int, (wrap64 (Int.tdiv x7_1 32)) = j_ := ⟨_, rfl⟩
    first | rw [hji15] at H | simp only [hji15] at H ⊢
    have hji15w : (IntKind.i64.wrap (Int.tdiv x7_1 32)) = ji15 := (i64_w _).trans hji15
    by_cases c16 : 0 ≤ (ji15)
    ·rw [if_pos c16] at H
     have c16b0 := decide_eq_true c16
     clear c16
     by_cases c17 : (ji15) < (t328.length : Int)
     ·rw [if_pos c17] at H
      have c17b0 := decide_eq_true c17
      clear c17
      obtain ⟨ji18, hji18⟩ : ∃ j_ : Int, (IntKind.u64.wrap (Int.tmod x7_1 32)) = j_ := ⟨_, rfl⟩
      first | rw [hji18] at H | simp only [hji18] at H ⊢
      by_cases c19 : 0 ≤ (ji18)
      ·rw [if_pos c19] at H
       have c19b0 := eq_true c19
       have c19b1 := decide_eq_true c19
       clear c19
       obtain ⟨ji20, hji20⟩ : ∃ j_ : Int, (shr .u32 (rd t328 (ji15)) (ji18)) = j_ := ⟨_, rfl⟩
       first | rw [hji20] at H | simp only [hji20] at H ⊢
       have hji20_ : ((rd t328 (ji15)) / 2 ^ min (ji18).toNat 32) = ji20 := hji20
       have hji20z : (ji18) ≤ 32 → ((rd t328 (ji15)) / 2 ^ (ji18).toNat) = ji20 := shr_small hji20
       by_cases c21 : (Go.bits .and .u32 (ji20) 1) = 0
       ·rw [if_pos c21] at H
        have c21b0 := beq_iff_eq.mpr c21
        have c21b1 := bne_eq_false_iff_eq.mpr c21
        clear c21
        have H' := asd H
        clear H
        have p331 : 0 ≤ ((ji15) : Int) := odt
        have q331 : (ji15) < (t328.length : Int) := odt
        obtain ⟨ad331, e331, hx331_0⟩ := Kd.at_int (Kd.R_reads' HO_1.out).2.2 (ji15) p331 q331
        cases e331
        replace p331 := eq_true p331
        replace q331 := eq_true q331
        go_wp2
        go_roundg k1
        case measure => have := HK1.out; omega
        case rel => exact ⟨(wrap64 (x7_1 + 1)), eqB, H', ⟨by have := HK1.out; omega⟩, ⟨by (with_reducible repeat (first | apply Kd.R_alloc | apply Kd.R_drewN | apply Kd.R_drew)); exact HO_1.out⟩, ⟨by (with_reducible repeat (first | refine blk_drewN ?_ _ | refine blk_drew ?_ | refine blk_alloc ?_ _)); exact BK327.out⟩, ⟨by repeat (first | (with_reducible first | exact HK.out | apply Kept.alloc | apply Kept.drewN | apply Kept.drew | refine Kept.setCell ?_ (.inr GW327.out) _) | exact HK.out)⟩, ⟨hbs⟩⟩
       ·rw [if_neg c21] at H
        have c21b0 := beq_eq_false_iff_ne.mpr c21
        have c21b1 := bne_iff_ne.mpr c21
        replace H := Option.bind_eq_some_iff.mp H
        obtain ⟨⟨t332, t333⟩, A220, H⟩ := H
        replace H : (if 0 ≤ 70368744177664 then ((some (List.replicate 0 0 : List Int)).bind fun y336 => (if y336.length + t332.length < 35184372088832 then (some (a0, (y336 ++ t332), wrap64 (a2 + x7_1))) else (none))) else (none)) = some (r1, r2, r3) := H
        have A22 := asd A220
        clear A220
        by_cases c23 : 0 ≤ 70368744177664
        ·rw [if_pos c23] at H
         have c23b0 := eq_true c23
         have c23b1 := decide_eq_true c23
         clear c23
         obtain ⟨y336, hy336⟩ : ∃ y_ : List Int, y_ = (List.replicate 0 0) := ⟨_, rfl⟩
         try rw [Option.bind_some] at H
         try rw [← hy336] at H
         have Ny336 := asd hy336
         clear hy336
         by_cases c24 : y336.length + t332.length < 35184372088832
         ·rw [if_pos c24] at H
          have LMc24 := asd c24
          clear c24
          obtain ⟨y339, hy339⟩ : ∃ y_ : List Int, y_ = (y336 ++ t332) := ⟨_, rfl⟩
          try rw [Option.bind_some] at H
          try rw [← hy339] at H
          have Ny339 := asd hy339
          clear hy339
          simp only [Option.some.injEq, Prod.mk.injEq] at H
          obtain ⟨rfl, rfl, rfl⟩ := H
          have p331 : 0 ≤ ((ji15) : Int) := odt
          have q331 : (ji15) < (t328.length : Int) := odt
          obtain ⟨ad331, e331, hx331_0⟩ := Kd.at_int (Kd.R_reads' HO_1.out).2.2 (ji15) p331 q331
          cases e331
          replace p331 := eq_true p331
          replace q331 := eq_true q331
          go_wp2_with (first | ((with_reducible refine gate_callee (f := 100) rfl ?_); refine goesL_ (some 32) rfl rfl Tryz.func100 (by kernel_rfl) rfl #[.slice (some ad331) t328.length co14, .int .i64 x7_1] rfl eqA ?_; (with_reducible refine (cuspref02_down.calls k1 _ _ t328 x7_1 t332 t333 _ ?side1 ?side2 A22.out).mono ?_); (case side1 => repeat (first | exact (Kd.R_reads' HO_1.out).2.2 | (with_reducible refine Kd.C_alloc ?_ _) | (with_reducible refine Kd.C_drewN ?_ _) | (with_reducible refine Kd.C_drew ?_))); (case side2 => exact (Kd.R_reads' HO_1.out).2.1); rintro e w25 ⟨v334, rfl, ho0, hb⟩; refine ⟨_, rfl, ?_⟩; have n0_ := asd (Kd.R_elder' (rUp HO_1.out) (Kd.R_base ho0) hb); have n1_ := asd (Kd.R_lower (Kd.R_new' (Kd.R_newM (M := fun k_ => (P1_ k_ ∨ w.heap.size ≤ k_)) ho0 (by first | exact HK.out.1 | exact (show Kept w _ (fun k_ => P1_ k_) from by repeat (first | (with_reducible first | exact HK.out | apply Kept.alloc | apply Kept.drewN | apply Kept.drew | refine Kept.setCell ?_ (.inr GW327.out) _) | exact HK.out)).1) (fun k_ h_ => .inr h_)) (Kd.R_lt (rUp HO_1.out))) (below_size hbs)); have n2_ := asd (blk_below (g := gb327) (o := .cells #[.bool false, .slice none 0 0, .int .i64 0] 41 (0, 0)) (blkU BK327.out) hb); have n3_ := asd (Kept.below (S := (fun k_ => P1_ k_)) (by repeat (first | (with_reducible first | exact HK.out | apply Kept.alloc | apply Kept.drewN | apply Kept.drew | refine Kept.setCell ?_ (.inr GW327.out) _) | exact HK.out)) hb); have n4_ := asd (below_step hbs hb); clear HO_1; clear BK327; clear HK; clear HB; have HO_1 := n0_; have HO335 := n1_; have BK327 := n2_; have HK := n3_; have HB := n4_; clear n0_ n1_ n2_ n3_ n4_; (try clear hb); (try clear ho0)) | ((with_reducible refine gate_dst (N := 36) rfl ?_); refine Kd.R_make (Kd.int .u32) _ 83 rfl (N := 36) rfl 39 _ _ rfl 0 rfl rfl Tryz.underlying39 (.int .u32 0) 4 info83 rfl (by decide) (by omega) 0 (ok := fun _ => True) (okp := fun _ => True) rfl (fun _ hk => hk) trivial (by omega) (by omega) (Below.refl _ _) (Nat.le_refl _) ?_; intro v337 w26 ho27 hb hg_ hnew_; clear hg_ hnew_; (first | rw [← Ny336.out] at ho27 | (simp only [Int.reduceToNat] at ho27; rw [← Ny336.out] at ho27)); have n0_ := asd (Kd.R_elder' (rUp HO_1.out) (Kd.R_base ho27) hb); have n1_ := asd (Kd.R_elder' (rUp HO335.out) (Kd.R_base ho27) hb); have n2_ := asd (Kd.R_lower (Kd.R_new' (Kd.R_new' (Kd.R_newM (M := fun k_ => (P1_ k_ ∨ w.heap.size ≤ k_)) ho27 (by first | exact HK.out.1 | exact (show Kept w _ (fun k_ => P1_ k_) from by repeat (first | (with_reducible first | exact HK.out | apply Kept.alloc | apply Kept.drewN | apply Kept.drew | refine Kept.setCell ?_ (.inr GW327.out) _) | exact HK.out)).1) (fun k_ h_ => .inr h_)) (Kd.R_lt (rUp HO_1.out))) (Kd.R_lt (rUp HO335.out))) (below_size hbs)); have n3_ := asd (blk_below (g := gb327) (o := .cells #[.bool false, .slice none 0 0, .int .i64 0] 41 (0, 0)) (blkU BK327.out) hb); have n4_ := asd (Kept.below (S := (fun k_ => P1_ k_)) (by repeat (first | (with_reducible first | exact HK.out | apply Kept.alloc | apply Kept.drewN | apply Kept.drew | refine Kept.setCell ?_ (.inr GW327.out) _) | exact HK.out)) hb); have n5_ := asd (below_step hbs hb); clear HO_1; clear HO335; clear BK327; clear HK; clear HB; have HO_1 := n0_; have HO335 := n1_; have HO338 := n2_; have BK327 := n3_; have HK := n4_; have HB := n5_; clear n0_ n1_ n2_ n3_ n4_ n5_; clear hb ho27; obtain ⟨Ao29, co29, eo29⟩ := Kd.R_slice HO335.out; subst eo29) | ((with_reducible refine gate_builtin (b := .append) (xs := #[.tmp 36, .tmp 37]) rfl ?_); at_builtin; refine Kd.R_append_rows (Kd.int .u32) (w0 := w0) w0.heap.size rfl (.tmp 36) (.tmp 37) 39 83 (.int .u32 0) 4 rfl Tryz.underlying39 info83 rfl (by decide) (by omega) v337 y336 t332 _ _ _ (fun k_ => (P1_ k_ ∨ w.heap.size ≤ k_) ∧ some k_ ≠ (.slice (some ad331) t328.length co14 : Value).ownBlock ∧ some k_ ≠ (.slice Ao29 t332.length co29 : Value).ownBlock) (fun _ => False) rfl rfl ?aO ?aR (fun _ _ h => h) (fun _ h => h.elim) ?aF ?aB ?aS ?aL ?_; (case aR => repeat (first | exact (Kd.R_reads' HO335.out).2.2 | (with_reducible refine Kd.C_alloc ?_ _) | (with_reducible refine Kd.C_drewN ?_ _) | (with_reducible refine Kd.C_drew ?_))); (case aB => exact hbs); (case aF => exact (fun k_ hk => ⟨(.inr (Nat.le_trans (by first | exact HK.out.1 | exact (show Kept w _ (fun k_ => P1_ k_) from by repeat (first | (with_reducible first | exact HK.out | apply Kept.alloc | apply Kept.drewN | apply Kept.drew | refine Kept.setCell ?_ (.inr GW327.out) _) | exact HK.out)).1) hk)), Kd.fresh' (Kd.R_lt (rUp HO_1.out)) k_ hk, Kd.fresh' (Kd.R_lt (rUp HO335.out)) k_ hk⟩)); (case aO => exact (by (with_reducible repeat (first | apply Kd.R_alloc | apply Kd.R_drewN | apply Kd.R_drew)); exact Kd.R_mono HO338.out (fun _ hk => ⟨hk.1.1.1, ⟨hk.1.2, hk.2⟩⟩))); (case aS => exact (below_size hbs)); (case aL => have := LMc24.out; omega); intro v340 w28 ho hb hg hat; rw [← Ny339.out] at ho; have n0_ := asd (Kd.R_after (ok := (fun k_ => (P1_ k_ ∨ w.heap.size ≤ k_) ∧ some k_ ≠ (.slice Ao29 t332.length co29 : Value).ownBlock)) (rUp HO_1.out) hg hat); have n1_ := asd (blk_grown (g := gb327) (o := .cells #[.bool false, .slice none 0 0, .int .i64 0] 41 (0, 0)) (blkU BK327.out) hg (Kd.R_ne HO338.out BK327.out (by decide))); have n2_ := asd (Kd.R_after (ok := (fun k_ => (P1_ k_ ∨ w.heap.size ≤ k_) ∧ some k_ ≠ (.slice (some ad331) t328.length co14 : Value).ownBlock)) (by (with_reducible repeat (first | apply Kd.R_alloc | apply Kd.R_drewN | apply Kd.R_drew)); exact Kd.R_mono HO335.out (fun _ hk => ⟨⟨hk.1.1.1, hk.1.2⟩, hk.2⟩)) hg hat); have n3_ := asd (hb); have n4_ := asd (Kept.of_grown (S := (fun k_ => P1_ k_)) hg (by repeat (first | (with_reducible first | exact HK.out | apply Kept.alloc | apply Kept.drewN | apply Kept.drew | refine Kept.setCell ?_ (.inr GW327.out) _) | exact HK.out)) (fun k_ e_ => (HO338.out.1 k_ e_).1.1.1)); have n5_ := asd (ho); clear HO_1; clear BK327; clear HO335; clear HB; clear HK; clear HO338; have HO_1 := n0_; have BK327 := n1_; have HO335 := n2_; have HB := n3_; have HK := n4_; have HO341 := n5_; clear n0_ n1_ n2_ n3_ n4_ n5_; clear ho hb hg hat; obtain ⟨Ao30, co30, eo30⟩ := Kd.R_slice HO341.out; subst eo30; obtain ⟨hcz31_0, hcz31_1, hcz31_2, hfz31_0, hfz31_1, hfz31_2⟩ := cz3 BK327.out))
          refine bodyPost_ret (results_cell_row rfl _ _ gb327 41 #[.bool a0, .slice Ao30 y339.length co30, .int .i64 (wrap64 (a2 + x7_1))] (0, 0) _ rfl (by (with_reducible repeat (first | refine blk_drewN ?_ _ | refine blk_drew ?_ | refine blk_alloc ?_ _)); refine blk_put (cs := #[.bool a0, .slice Ao30 y339.length co30, .int .i64 0]) ?_ 2 _ rfl; (with_reducible repeat (first | refine blk_drewN ?_ _ | refine blk_drew ?_ | refine blk_alloc ?_ _)); refine blk_put (cs := #[.bool a0, .slice none 0 0, .int .i64 0]) ?_ 1 _ rfl; (with_reducible repeat (first | refine blk_drewN ?_ _ | refine blk_drew ?_ | refine blk_alloc ?_ _)); refine blk_put (cs := #[.bool false, .slice none 0 0, .int .i64 0]) ?_ 0 _ rfl; (with_reducible repeat (first | refine blk_drewN ?_ _ | refine blk_drew ?_ | refine blk_alloc ?_ _)); exact BK327.out) Tryz.underlying41 rfl (by kernel_rfl)) rfl ?_
          exact ⟨_, by first | rfl | (simp [errW_none, errW_some] <;> rfl) | (simp only [← hji15, ← hji18, ← hji20]; first | rfl | (simp [errW_none, errW_some] <;> rfl)) | (simp [*, errW_none, errW_some] <;> rfl), by (with_reducible repeat (first | apply Kd.R_alloc | apply Kd.R_drewN | apply Kd.R_drew)); exact Kd.R_mono (Kd.R_far (p := ⟨gb327, 2, none⟩) (Kd.R_far (p := ⟨gb327, 1, none⟩) (Kd.R_far (p := ⟨gb327, 0, none⟩) (Kd.R_types HO341.out BK327.out (by decide)) (fun _ hk => hk.2) (.bool a0)) (fun _ hk => hk.2) (.slice Ao30 y339.length co30)) (fun _ hk => hk.2) (.int .i64 (wrap64 (a2 + x7_1)))) (fun _ hk => hk.1.1), hbs, by repeat (first | (with_reducible first | exact HK.out | apply Kept.alloc | apply Kept.drewN | apply Kept.drew | refine Kept.setCell ?_ (.inr GW327.out) _) | exact HK.out)⟩
         ·rw [if_neg c24] at H
          exact absurd H (by simp)
        ·rw [if_neg c23] at H
         exact absurd H (by simp)
      ·rw [if_neg c19] at H
       exact absurd H (by simp)
     ·rw [if_neg c17] at H
      exact absurd H (by simp)
    ·rw [if_neg c16] at H
     exact absurd H (by simp)
end Go.Proofs.YthmeocigliephaaGreatDoor.PSu
end
section
namespace Go.Proofs.YthmeocigliephaaGreatDoor.Plain
open Go.Proofs.YthmeocigliephaaGreatDoor.PSu Go.Proofs.YthmeocigliephaaGreatDoor.Big
theorem getD_zero {l : List Int} {i d : Nat} (h : ¬ i < l.length) (hd : l.getD i 0 = (d : Int)) : d = 0 := by
  rw [List.getD_eq_getElem?_getD, List.getElem?_eq_none (by omega)] at hd; simp at hd; omega
theorem rsum_step (k : Nat) (p q x : List Int) (i c pd qd : Nat) (hc : c ≤ 1) (hpd : p.getD i 0 = (pd : Int)) (hp1 : pd < 4294967296) (hqd : q.getD i 0 = (qd : Int)) (hq1 : qd < 4294967296) (hx : x.length < 35184372088832) (hi : i < p.length ∨ i < q.length) (hb : i < 4611686018427387904) :
    cuspref02_sum.l0 (k + 1 + 1) p q x (c : Int) (i : Int) = cuspref02_sum.l0 k p q (x ++ [(((c + pd + qd) % 4294967296 : Nat) : Int)]) (((c + pd + qd) / 4294967296 : Nat) : Int) ((i + 1 : Nat) : Int) := by
  have e1 : IntKind.u64.wrap ((c : Int) + IntKind.u64.wrap (pd : Int)) = ((c + pd : Nat) : Int) := by rw [u64_of (x := (pd : Int)) (by omega) (by omega), u64_of (by omega) (by omega)]; omega
  have e2 : IntKind.u64.wrap (((c + pd : Nat) : Int) + IntKind.u64.wrap (qd : Int)) = ((c + pd + qd : Nat) : Int) := by rw [u64_of (x := (qd : Int)) (by omega) (by omega), u64_of (by omega) (by omega)]; omega
  have e3 : IntKind.u64.wrap ((c : Int) + IntKind.u64.wrap (qd : Int)) = ((c + qd : Nat) : Int) := by rw [u64_of (x := (qd : Int)) (by omega) (by omega), u64_of (by omega) (by omega)]; omega
  rw [cuspref02_sum.l0]
  by_cases h1 : i < p.length
  · rw [if_pos (by omega), cuspref02_sum.j1, if_pos rfl, if_pos (by omega), if_pos (by omega), rd_nat, hpd, e1]
    by_cases h2 : i < q.length
    · rw [if_pos (by omega), if_pos hx, rd_nat, hqd, e2, w64_succ hb,
        show ((c + pd + qd : Nat) : Int) % 4294967296 = (((c + pd + qd) % 4294967296 : Nat) : Int) from by omega, show ((c + pd + qd : Nat) : Int) / 4294967296 = (((c + pd + qd) / 4294967296 : Nat) : Int) from by omega]
    · have := getD_zero h2 hqd
      subst this
      rw [if_neg (by omega), if_pos hx, w64_succ hb,
        show ((c + pd : Nat) : Int) % 4294967296 = (((c + pd + 0) % 4294967296 : Nat) : Int) from by omega, show ((c + pd : Nat) : Int) / 4294967296 = (((c + pd + 0) / 4294967296 : Nat) : Int) from by omega]
  · have := getD_zero h1 hpd
    subst this
    have h2 : i < q.length := by omega
    rw [if_neg (by omega), cuspref02_sum.j1, if_pos (by simp; omega), if_neg (by omega), if_pos (by omega), if_pos (by omega), if_pos hx, rd_nat, hqd, e3, w64_succ hb,
      show ((c + qd : Nat) : Int) % 4294967296 = (((c + 0 + qd) % 4294967296 : Nat) : Int) from by omega, show ((c + qd : Nat) : Int) / 4294967296 = (((c + 0 + qd) / 4294967296 : Nat) : Int) from by omega]
theorem rsum_ev (p q : List Int) (hp : Nrm p) (hq : Nrm q) (M : Nat) (hM : M = if p.length < q.length then q.length else p.length) (hb : M < 35184372088830) :
    ∀ (d i c : Nat) (x : List Int), d = M - i → i ≤ M → x.length = i → Dg x → c ≤ 1 → val x + 2 ^ (32 * i) * c = val (p.take i) + val (q.take i) →
      Ev (fun k => cuspref02_sum.l0 k p q x (c : Int) (i : Int)) (dig (val p + val q)) := by
  have hpM : p.length ≤ M := by rw [hM]; split <;> omega
  have hqM : q.length ≤ M := by rw [hM]; split <;> omega
  have hor : M = p.length ∨ M = q.length := by rw [hM]; split <;> omega
  intro d
  induction d with
  | zero =>
    intro i c x hd hi hx hdx hc hv
    have hi' : i = M := by omega
    subst hi'
    rw [List.take_of_length_le hpM, List.take_of_length_le hqM] at hv
    have hstop : ∀ k, cuspref02_sum.l0 (k + 1 + 1) p q x (c : Int) (i : Int) = if (c : Int) > 0 then (if x.length < 35184372088832 then some (x ++ [(c : Int) % 4294967296]) else none) else some x := by
      intro k
      rw [cuspref02_sum.l0, if_neg (by omega), cuspref02_sum.j1, if_neg (by simp; omega)]
    by_cases h0 : c = 0
    · subst h0
      have e : dig (val p + val q) = x := by
        rw [← hv, Nat.mul_zero, Nat.add_zero]
        refine (dig_of_ge hdx (fun hn => ?_)).symm
        have hxp : 0 < x.length := List.length_pos_iff.2 hn
        rcases hor with h | h
        · have := le_of_dig_length (n := val p) (k := x.length - 1) (by rw [dig_val hp]; omega)
          omega
        · have := le_of_dig_length (n := val q) (k := x.length - 1) (by rw [dig_val hq]; omega)
          omega
      rw [e]
      refine Ev.step (f := fun k => cuspref02_sum.l0 (k + 1) p q x ((0 : Nat) : Int) (i : Int)) (fun k => rfl) (Ev.step (f := fun _ => some x) (fun k => ?_) (Ev.now _))
      rw [hstop, if_neg (by omega)]
    · obtain rfl : c = 1 := by omega
      have e : dig (val p + val q) = x ++ [((1 : Nat) : Int)] := by
        rw [← hv, show val x + 2 ^ (32 * i) * 1 = val (x ++ [((1 : Nat) : Int)]) by rw [val_snoc, hx]; rfl]
        exact dig_val (nrm_snoc hdx (by omega) (by omega))
      rw [e]
      refine Ev.step (f := fun k => cuspref02_sum.l0 (k + 1) p q x ((1 : Nat) : Int) (i : Int)) (fun k => rfl) (Ev.step (f := fun _ => some (x ++ [((1 : Nat) : Int)])) (fun k => ?_) (Ev.now _))
      rw [hstop, if_pos (by omega), if_pos (by omega)]
      rfl
  | succ d ih =>
    intro i c x hd hi hx hdx hc hv
    obtain ⟨pd, hpd, hp1⟩ := hp.1.nat i
    obtain ⟨qd, hqd, hq1⟩ := hq.1.nat i
    have tp := val_take_succ' p i
    have tq := val_take_succ' q i
    rw [hpd, Int.toNat_natCast] at tp
    rw [hqd, Int.toNat_natCast] at tq
    have hnew : ∀ s : Nat, s = c + pd + qd → val (x ++ [((s % 4294967296 : Nat) : Int)]) + 2 ^ (32 * (i + 1)) * (s / 4294967296) = val (p.take (i + 1)) + val (q.take (i + 1)) := by
      intro s hs
      rw [val_snoc, hx, tp, tq, Int.toNat_natCast, pow32_succ]
      have h1 : 2 ^ (32 * i) * (s % 4294967296) + 4294967296 * 2 ^ (32 * i) * (s / 4294967296) = 2 ^ (32 * i) * s := by
        rw [Nat.mul_comm 4294967296, Nat.mul_assoc, ← Nat.mul_add]; congr 1; omega
      have h2 : 2 ^ (32 * i) * s = 2 ^ (32 * i) * c + 2 ^ (32 * i) * pd + 2 ^ (32 * i) * qd := by rw [hs, Nat.mul_add, Nat.mul_add]
      omega
    have h := ih (i + 1) ((c + pd + qd) / 4294967296) (x ++ [(((c + pd + qd) % 4294967296 : Nat) : Int)]) (by omega) (by omega) (by simp [hx]) (hdx.append (Dg.one (by omega) (by omega))) (by omega) (hnew _ rfl)
    refine Ev.step (f := fun k => cuspref02_sum.l0 (k + 1) p q x (c : Int) (i : Int)) (fun k => rfl) (Ev.step (fun k => ?_) h)
    exact rsum_step k p q x i c pd qd hc hpd hp1 hqd hq1 (by omega) (by omega) (by omega)
theorem rsum_law (a b : Nat) (ha : (dig a).length < 35184372088830) (hb : (dig b).length < 35184372088830) : Ev (fun k => cuspref02_sum.f k (dig a) (dig b)) (dig (a + b)) := by
  have h := rsum_ev (dig a) (dig b) (nrm_dig a) (nrm_dig b) _ rfl (by split <;> omega) _ 0 0 [] rfl (by omega) rfl Dg.nil (by omega) (by simp)
  rw [val_dig, val_dig] at h
  exact h
theorem bit_at (v i : Nat) : v / 2 ^ (32 * (i / 32)) % 4294967296 / 2 ^ (i % 32) % 2 = v / 2 ^ i % 2 := by
  have h1 : (4294967296 : Nat) = 2 ^ (i % 32) * (2 * 2 ^ (31 - i % 32)) := by
    rw [← Nat.pow_succ', ← Nat.pow_add, show i % 32 + (31 - i % 32).succ = 32 by omega]
  have h2 : v / 2 ^ i = v / 2 ^ (32 * (i / 32)) / 2 ^ (i % 32) := by rw [Nat.div_div_eq_div_mul, ← Nat.pow_add]; congr 2; omega
  rw [h2, h1, Nat.mod_mul_right_div_self, Nat.mod_mul_right_mod]
theorem low_bit (v i : Nat) (h0 : v ≠ 0) (hi : i ≤ tz v) : (v / 2 ^ i % 2 = 0 ↔ i < tz v) := by
  obtain ⟨m, hm⟩ := tz_spec h0
  have hp : 0 < 2 ^ i := Nat.pow_pos (by omega)
  have e : v / 2 ^ i = 2 ^ (tz v - i) * (2 * m + 1) := by
    have : v = 2 ^ i * (2 ^ (tz v - i) * (2 * m + 1)) := by rw [← Nat.mul_assoc, ← Nat.pow_add, show i + (tz v - i) = tz v by omega]; exact hm
    exact Nat.div_eq_of_eq_mul_right hp this
  rw [e]
  constructor
  · intro h
    rcases Nat.lt_or_ge i (tz v) with h1 | h1
    · exact h1
    · rw [show tz v - i = 0 by omega, Nat.pow_zero] at h; omega
  · intro h
    rw [show tz v - i = (tz v - i - 1) + 1 by omega, Nat.pow_succ, Nat.mul_comm (2 ^ (tz v - i - 1)) 2, Nat.mul_assoc]; omega
theorem rnorm_ev (neg : Bool) (v : Nat) (e : Int) (h0 : v ≠ 0) (hb : (dig v).length < 1000000) (he : -4000000000 ≤ e) (he1 : e ≤ 4000000000) :
    ∀ d i : Nat, i + d = tz v → Ev (fun k => cuspref02_norm.l0 k neg (dig v) e (i : Int)) (neg, dig (v / 2 ^ tz v), e + tz v) := by
  have htz : tz v < 32 * (dig v).length := by
    have h1 := tz_le h0
    have h2 := lt_dig_length v
    exact (Nat.pow_lt_pow_iff_right (by omega)).1 (Nat.lt_of_le_of_lt h1 h2)
  have hdl : (dig (v / 2 ^ tz v)).length ≤ (dig v).length := dig_length_mono (Nat.div_le_self _ _)
  intro d
  induction d with
  | zero =>
    intro i hi
    have hi' : i = tz v := by omega
    subst hi'
    have ew : wrap64 (Int.tdiv ((tz v : Nat) : Int) 32) = ((tz v / 32 : Nat) : Int) := by
      rw [Int.tdiv_eq_ediv_of_nonneg (by omega), show (((tz v : Nat) : Int) / 32) = ((tz v / 32 : Nat) : Int) by omega, w64_nat (by omega)]
    have em : IntKind.u64.wrap (Int.tmod ((tz v : Nat) : Int) 32) = ((tz v % 32 : Nat) : Int) := by rw [Int.tmod_eq_emod_of_nonneg (by omega), u64_of (by omega) (by omega)]; omega
    obtain ⟨g, hg, hg1⟩ := (dg_dig v).nat (tz v / 32)
    have hgv := val_get (dg_dig v) (tz v / 32)
    rw [hg, Int.toNat_natCast, val_dig] at hgv
    have hbit := bit_at v (tz v)
    rw [← hgv] at hbit
    have hb1 : g / 2 ^ (tz v % 32) % 2 = 1 := by
      rw [hbit]
      have : v / 2 ^ tz v % 2 ≠ 0 := fun h => Nat.lt_irrefl _ ((low_bit v (tz v) h0 (Nat.le_refl _)).1 h)
      omega
    have hsh : bits .and .u32 (shr .u32 (g : Int) ((tz v % 32 : Nat) : Int)) 1 = 1 := by
      have hmin' : min (((tz v % 32 : Nat) : Int)).toNat IntKind.u32.bits = tz v % 32 := by simp [IntKind.bits]; omega
      unfold shr
      rw [hmin', show ((2 : Int) ^ (tz v % 32)) = ((2 ^ (tz v % 32) : Nat) : Int) by rw [Int.natCast_pow]; rfl, ← Int.natCast_ediv, bits_and1_u32 _ (Nat.lt_of_le_of_lt (Nat.div_le_self _ _) hg1), hb1]; rfl
    have hd := rdown_law v (tz v) (by omega) (by omega)
    refine Ev.step (f := fun k => (cuspref02_down.f k (dig v) ((tz v : Nat) : Int)).bind fun bt => some (neg, [] ++ bt.1, e + tz v)) (fun k => ?_) (Ev.bind hd (Ev.now _))
    rw [cuspref02_norm.l0, ew, if_pos (by omega), if_pos (by omega), em, if_pos (by omega), rd_nat, hg, if_neg (by rw [hsh]; omega)]
    rcases hq : cuspref02_down.f k (dig v) ((tz v : Nat) : Int) with _ | ⟨u1, u2⟩
    · rfl
    · rw [Option.bind_some, Option.bind_some, if_pos (by omega), Option.bind_some, List.replicate_zero]
      have hk : u1 = dig (v / 2 ^ tz v) := by
        have h1 := hd
        obtain ⟨K, hK⟩ := h1
        have hmono := at_rounds (g := fun k => cuspref02_down.f k (dig v) ((tz v : Nat) : Int)) (fun k => cuspref02_down.mono _ _ k) (Nat.le_max_left k K) hq
        have hK2 : cuspref02_down.f (max k K) (dig v) ((tz v : Nat) : Int) = some (dig (v / 2 ^ tz v), decide (v % 2 ^ tz v = 0)) := hK _ (Nat.le_max_right k K)
        have := Option.some.inj (hK2.symm.trans hmono)
        exact (Prod.mk.inj this).1.symm
      rw [hk, if_pos (by simp; omega), w64_of (by omega) (by omega)]
  | succ d ih =>
    intro i hi
    have ew : wrap64 (Int.tdiv ((i : Nat) : Int) 32) = ((i / 32 : Nat) : Int) := by
      rw [Int.tdiv_eq_ediv_of_nonneg (by omega), show (((i : Nat) : Int) / 32) = ((i / 32 : Nat) : Int) by omega, w64_nat (by omega)]
    have em : IntKind.u64.wrap (Int.tmod ((i : Nat) : Int) 32) = ((i % 32 : Nat) : Int) := by rw [Int.tmod_eq_emod_of_nonneg (by omega), u64_of (by omega) (by omega)]; omega
    obtain ⟨g, hg, hg1⟩ := (dg_dig v).nat (i / 32)
    have hgv := val_get (dg_dig v) (i / 32)
    rw [hg, Int.toNat_natCast, val_dig] at hgv
    have hbit := bit_at v i
    rw [← hgv] at hbit
    have hb1 : g / 2 ^ (i % 32) % 2 = 0 := by rw [hbit]; exact (low_bit v i h0 (by omega)).2 (by omega)
    have hsh : bits .and .u32 (shr .u32 (g : Int) ((i % 32 : Nat) : Int)) 1 = 0 := by
      have hmin' : min (((i % 32 : Nat) : Int)).toNat IntKind.u32.bits = i % 32 := by simp [IntKind.bits]; omega
      unfold shr
      rw [hmin', show ((2 : Int) ^ (i % 32)) = ((2 ^ (i % 32) : Nat) : Int) by rw [Int.natCast_pow]; rfl, ← Int.natCast_ediv, bits_and1_u32 _ (Nat.lt_of_le_of_lt (Nat.div_le_self _ _) hg1), hb1]; rfl
    refine Ev.step (fun k => ?_) (ih (i + 1) (by omega))
    rw [cuspref02_norm.l0, ew, if_pos (by omega), if_pos (by omega), em, if_pos (by omega), rd_nat, hg, if_pos hsh, w64_succ (by omega)]
theorem rnorm_law (neg : Bool) (l : List Int) (e : Int) (hd : Dg l) (hb : l.length < 1000000) (he : -4000000000 ≤ e) (he1 : e ≤ 4000000000) :
    Ev (fun k => cuspref02_norm.f k neg l e) (canN (if neg = true then -(val l : Int) else val l) e) := by
  unfold cuspref02_norm.f
  refine Ev.bind (rtrim_law hd (by omega)) ?_
  by_cases h0 : val l = 0
  · rw [h0, dig_zero]
    have : (if neg = true then -((0 : Nat) : Int) else ((0 : Nat) : Int)) = 0 := by cases neg <;> rfl
    rw [this, canN_zero]
    exact Ev.congr (fun k => if_pos rfl) (Ev.now _)
  · have hne := dig_ne h0
    have hl : (dig (val l)).length ≠ 0 := fun h => hne (List.length_eq_zero_iff.1 h)
    have hll := dig_length_le_of hd
    have hz : (if neg = true then -(val l : Int) else (val l : Int)) ≠ 0 := by cases neg <;> simp <;> omega
    have hna : (if neg = true then -(val l : Int) else (val l : Int)).natAbs = val l := by cases neg <;> simp
    have hlt : decide ((if neg = true then -(val l : Int) else (val l : Int)) < 0) = neg := by
      cases neg
      · simp
      · simp; omega
    rw [canN_ne hz, hna, hlt]
    exact Ev.congr (fun k => if_neg (by omega)) (rnorm_ev neg (val l) e h0 (by omega) he he1 (tz (val l)) 0 (by omega))
end Go.Proofs.YthmeocigliephaaGreatDoor.Plain
end
section
namespace Go.Proofs.YthmeocigliephaaGreatDoor.Big
open Go.Proofs.YthmeocigliephaaGreatDoor.PSu Go.Proofs.YthmeocigliephaaGreatDoor.Plain
attribute [local go_sem] max2_int min2_int max_two min_two
def RetR (r : Bool × List Int × Int) (w : World) (e : Ending) (w' : World) : Prop :=
  ∃ v1_ : Value, e = .returned (.agg #[.bool r.1, v1_, .int .i64 r.2.2]) ∧ Kd.R (Kd.int .u32) 83 w' w.heap.size (fun _ => True) v1_ r.2.1 ∧ Below w.heap.size w w'
structure PlW (W0 W : World) (na : Bool) (la : List Int) (ea : Int) (A : Option Addr) (c : Nat) (nb : Bool) (lb : List Int) (eb : Int) (B : Option Addr) (d : Nat) : Prop where
  a : RB W W0.heap.size na (.slice A la.length c) ea
  b : RB W (W0.heap.size + 1) nb (.slice B lb.length d) eb
  r : RB W (W0.heap.size + 1 + 1) false (.slice none 0 0) 0
  ra : Kd.C (Kd.int .u32) W A la.length la
  rb : Kd.C (Kd.int .u32) W B lb.length lb
  keep : Below W0.heap.size W0 W
section
variable {W0 W W' : World} {na : Bool} {la : List Int} {ea : Int} {A : Option Addr} {c : Nat} {nb : Bool} {lb : List Int} {eb : Int} {B : Option Addr} {d : Nat}
theorem PlW.step (h : PlW W0 W na la ea A c nb lb eb B d) (k : Below W.heap.size W W') : PlW W0 W' na la ea A c nb lb eb B d :=
  ⟨h.a.below k, h.b.below k, h.r.below k, Kd.C_below h.ra k, Kd.C_below h.rb k, below_post k h.keep⟩
theorem plW_new (ha : Kd.C (Kd.int .u32) W0 A la.length la) (hb : Kd.C (Kd.int .u32) W0 B lb.length lb) :
    PlW W0 (((W0.alloc (.cells #[.bool na, .slice A la.length c, .int .i64 ea] 41 (0, 0))).alloc (.cells #[.bool nb, .slice B lb.length d, .int .i64 eb] 41 (0, 0))).alloc (.cells #[.bool false, .slice none 0 0, .int .i64 0] 41 (0, 0))) na la ea A c nb lb eb B d := by
  have b3 := (((Below.refl W0.heap.size W0).alloc (Nat.le_refl _) (.cells #[.bool na, .slice A la.length c, .int .i64 ea] 41 (0, 0))).alloc (by simp) (.cells #[.bool nb, .slice B lb.length d, .int .i64 eb] 41 (0, 0))).alloc (by simp; omega) (.cells #[.bool false, .slice none 0 0, .int .i64 0] 41 (0, 0))
  have e1 : ∀ (w : World) (o : Obj) (n : Bool) (v : Value) (e : Int), RB ((w.alloc o).alloc (.cells #[.bool n, v, .int .i64 e] 41 (0, 0))) (w.heap.size + 1) n v e := fun w o n v e => by
    unfold RB; rw [show w.heap.size + 1 = (w.alloc o).heap.size by simp]; exact blk_new _ _
  refine ⟨blk_alloc (blk_alloc (blk_new _ _) _) _, blk_alloc (e1 _ _ _ _ _) _, ?_, Kd.C_below ha b3, Kd.C_below hb b3, b3⟩
  have := e1 (W0.alloc (.cells #[.bool na, .slice A la.length c, .int .i64 ea] 41 (0, 0))) (.cells #[.bool nb, .slice B lb.length d, .int .i64 eb] 41 (0, 0)) false (.slice none 0 0) 0
  rwa [show (W0.alloc (.cells #[.bool na, .slice A la.length c, .int .i64 ea] 41 (0, 0))).heap.size = W0.heap.size + 1 by simp] at this
end
section
variable (na : Bool) (la : List Int) (ea : Int) (A : Option Addr) (c : Nat) (nb : Bool) (lb : List Int) (eb : Int) (B : Option Addr) (d : Nat) (w : World)
  (ha : Kd.C (Kd.int .u32) w A la.length la) (hc : la.length ≤ c) (hb : Kd.C (Kd.int .u32) w B lb.length lb) (hd : lb.length ≤ d)
include ha hc hb hd
theorem plus_a0 (hla : la.length = 0) (hlb : lb.length < 35184372088832) :
    Calls Tryz.prog 25 #[.agg #[.bool na, .slice A la.length c, .int .i64 ea], .agg #[.bool nb, .slice B lb.length d, .int .i64 eb]] w (RetR (nb, lb, eb) w) := by
  have T0 := asd (plW_new (na := na) (ea := ea) (c := c) (nb := nb) (eb := eb) (d := d) ha hb)
  have HC := asd hc
  have HD := asd hd
  have z0 : (((la.length : Nat) : Int) == 0) = true := by rw [hla]; rfl
  have TW := asd (show cuspref02_twin.f nb lb eb = some (nb, lb, eb) by unfold cuspref02_twin.f; rw [if_pos (by simp; omega)]; rfl)
  clear ha hc hb hd hla
  go_enter Tryz.func25, Tryz.ntmps25
  go_wp2_with (first
    | (go_at_call 63; refine (cuspref02_twin.calls nb B d lb eb nb lb eb _ T0.out.rb HD.out TW.out).mono ?_; rintro e1 w1 ⟨u, rfl, r1, d1⟩; obtain ⟨Au, cu, hu⟩ := Kd.R_slice r1; subst hu; have T1 := asd (T0.out.step d1); have q0 := T1.out.r.c0; have q1 := T1.out.r.c1; have q2 := T1.out.r.c2; have q3 := T1.out.r.fr 0; have q4 := T1.out.r.fr 1; have q5 := T1.out.r.fr 2; have R1 := asd r1; have ltr := asd (blk_lt T0.out.r); clear d1 r1))
  refine bodyPost_ret (v := .agg #[.bool nb, .slice Au lb.length cu, .int .i64 eb]) (by simp [results, Tryz.results25, go_sem, q0, q1, q2, q3, q4, q5]) rfl ?_
  have lt := ltr.out
  exact ⟨_, rfl, Kd.R_lower (r_set (r_set (r_set R1.out _ (by first | (simp; done) | simpa using lt) _) _ (by first | (simp; done) | simpa using lt) _) _ (by first | (simp; done) | simpa using lt) _) T0.out.keep.size, ((T1.out.keep.setCell (by simp; omega) _).setCell (by simp; omega) _).setCell (by simp; omega) _⟩
theorem plus_b0 (hla : la.length ≠ 0) (hlb : lb.length = 0) (hla2 : la.length < 35184372088832) :
    Calls Tryz.prog 25 #[.agg #[.bool na, .slice A la.length c, .int .i64 ea], .agg #[.bool nb, .slice B lb.length d, .int .i64 eb]] w (RetR (na, la, ea) w) := by
  have T0 := asd (plW_new (na := na) (ea := ea) (c := c) (nb := nb) (eb := eb) (d := d) ha hb)
  have HC := asd hc
  have HD := asd hd
  have z0 : (((la.length : Nat) : Int) == 0) = false := by rw [beq_eq_false_iff_ne]; omega
  have z1 : (((lb.length : Nat) : Int) == 0) = true := by rw [hlb]; rfl
  have TW := asd (show cuspref02_twin.f na la ea = some (na, la, ea) by unfold cuspref02_twin.f; rw [if_pos (by simp; omega)]; rfl)
  clear ha hc hb hd hla hlb
  go_enter Tryz.func25, Tryz.ntmps25
  go_wp2_with (first
    | (go_at_call 63; refine (cuspref02_twin.calls na A c la ea na la ea _ T0.out.ra HC.out TW.out).mono ?_; rintro e1 w1 ⟨u, rfl, r1, d1⟩; obtain ⟨Au, cu, hu⟩ := Kd.R_slice r1; subst hu; have T1 := asd (T0.out.step d1); have q0 := T1.out.r.c0; have q1 := T1.out.r.c1; have q2 := T1.out.r.c2; have q3 := T1.out.r.fr 0; have q4 := T1.out.r.fr 1; have q5 := T1.out.r.fr 2; have R1 := asd r1; have ltr := asd (blk_lt T0.out.r); clear d1 r1))
  refine bodyPost_ret (v := .agg #[.bool na, .slice Au la.length cu, .int .i64 ea]) (by simp [results, Tryz.results25, go_sem, q0, q1, q2, q3, q4, q5]) rfl ?_
  have lt := ltr.out
  exact ⟨_, rfl, Kd.R_lower (r_set (r_set (r_set R1.out _ (by first | (simp; done) | simpa using lt) _) _ (by first | (simp; done) | simpa using lt) _) _ (by first | (simp; done) | simpa using lt) _) T0.out.keep.size, ((T1.out.keep.setCell (by simp; omega) _).setCell (by simp; omega) _).setCell (by simp; omega) _⟩
theorem plus_same (k1 k2 k3 k4 k5 : Nat) (ua ub us : List Int) (E : Int) (hE : (if eb < ea then eb else ea) = E) (hla : la.length ≠ 0) (hlb : lb.length ≠ 0) (he0 : -10000000 ≤ ea) (he1 : ea ≤ 10000000) (he2 : -10000000 ≤ eb) (he3 : eb ≤ 10000000) (hu1 : cuspref02_up.f k1 la (ea - E) = some ua) (hu2 : cuspref02_up.f k2 lb (eb - E) = some ub) (r1 : Bool) (r2 : List Int) (r3 : Int) (hab : na = nb) (hs : cuspref02_sum.f k4 ua ub = some us) (hn : cuspref02_norm.f k5 na us E = some (r1, r2, r3)) :
    Calls Tryz.prog 25 #[.agg #[.bool na, .slice A la.length c, .int .i64 ea], .agg #[.bool nb, .slice B lb.length d, .int .i64 eb]] w (RetR (r1, r2, r3) w) := by
  have T0 := asd (plW_new (na := na) (ea := ea) (c := c) (nb := nb) (eb := eb) (d := d) ha hb)
  have HC := asd hc
  have HD := asd hd
  have z0 : (((la.length : Nat) : Int) == 0) = false := by rw [beq_eq_false_iff_ne]; omega
  have z1 : (((lb.length : Nat) : Int) == 0) = false := by rw [beq_eq_false_iff_ne]; omega
  have hEa : E ≤ ea ∧ E ≤ eb ∧ -10000000 ≤ E := by rw [← hE]; split <;> omega
  obtain ⟨hEa1, hEa2, hEa3⟩ := hEa
  have U1 := asd hu1
  have U2 := asd hu2
  have S1 := asd hs
  have N1 := asd hn
  have tok1 : True := trivial
  have hab1 : (na == nb) = true := by rw [hab]; cases nb <;> rfl
  clear ha hc hb hd hla hlb hu1 hu2 hs hn hab
  go_enter Tryz.func25, Tryz.ntmps25
  go_upto_region 9 with (first
    | (go_at_call 64; have _t := tok1; refine (cuspref02_up.calls k1 A c la (ea - E) ua _ T0.out.ra HC.out U1.out).mono ?_; rintro e1 w4 ⟨v4, rfl, r4, d4⟩; obtain ⟨A4, c4, hv4⟩ := Kd.R_slice r4; subst hv4; have R4 := asd (Kd.R_reads' r4); have T4 := asd (T0.out.step d4); have a40 := T4.out.a.c0; have a41 := T4.out.a.c1; have a42 := T4.out.a.c2; have b40 := T4.out.b.c0; have b41 := T4.out.b.c1; have b42 := T4.out.b.c2; have r40 := T4.out.r.c0; have r41 := T4.out.r.c1; have r42 := T4.out.r.c2; clear d4 r4 _t tok1)
    | (go_at_call 64; refine (cuspref02_up.calls k2 B d lb (eb - E) ub _ T4.out.rb HD.out U2.out).mono ?_; rintro e1 w5 ⟨v5, rfl, r5, d5⟩; obtain ⟨A5, c5, hv5⟩ := Kd.R_slice r5; subst hv5; have R5 := asd (Kd.R_reads' r5); have C4 := asd (Kd.C_below R4.out.2.2 d5); have T5 := asd (T4.out.step d5); have a50 := T5.out.a.c0; have a51 := T5.out.a.c1; have a52 := T5.out.a.c2; have b50 := T5.out.b.c0; have b51 := T5.out.b.c1; have b52 := T5.out.b.c2; have r50 := T5.out.r.c0; have r51 := T5.out.r.c1; have r52 := T5.out.r.c2; clear d5 r5))
  go_region_held3 (fun w' => w'.cell? ⟨w.heap.size, 0, none⟩ = some (.bool na))
    (first | exact a50 | exact S8.out | exact S7.out | (have _s := S8; exact (set3_cell _ _ _ _ _ _ _ (by omega)).trans S8.out) | go_keep)
    ((first
      | (go_at_call 66; refine (cuspref02_sum.calls k4 A4 c4 ua A5 c5 ub us _ (Kd.C_below C4.out (by first | exact Below.refl _ _ | exact (Below.refl _ _).drew)) R4.out.2.1 (Kd.C_below R5.out.2.2 (by first | exact Below.refl _ _ | exact (Below.refl _ _).drew)) R5.out.2.1 S1.out).mono ?_; rintro e1 w7 ⟨v7, rfl, r7, d7⟩; have B7 := asd (show Below w5.heap.size w5 w7 from below_post d7 (by first | exact Below.refl _ _ | exact (Below.refl _ _).drew)); have R7 := asd (show Kd.R (Kd.int .u32) 83 w7 w5.heap.size (fun _ => True) v7 us from r7); have T7 := asd (T5.out.step B7.out); have S7 := asd (show w7.cell? ⟨w.heap.size, 0, none⟩ = some (.bool na) from T7.out.a.c0); clear d7 r7)
      | (go_at_call 65; refine (cuspref02_norm.calls k5 na (fun _ => True) _ us E r1 r2 r3 w5 _ (below_post (by first | exact Below.refl _ _ | exact (Below.refl _ _).drew) B7.out) (by first | exact R7.out | exact Kd.R_drew R7.out) N1.out).mono ?_; rintro e1 w8 ⟨v8, rfl, r8, d8, _⟩; obtain ⟨Au, cu, hu⟩ := Kd.R_slice r8; subst hu; have T8 := asd (T5.out.step d8); have R8 := asd (Kd.R_mono r8 (fun _ _ => (trivial : True))); have ltr := asd (blk_lt T5.out.r); have q0 := T8.out.r.c0; have q1 := T8.out.r.c1; have q2 := T8.out.r.c2; have q3 := T8.out.r.fr 0; have q4 := T8.out.r.fr 1; have q5 := T8.out.r.fr 2; have S8 := asd (show w8.cell? ⟨w.heap.size, 0, none⟩ = some (.bool na) from T8.out.a.c0); clear d8 r8)))
  all_goals
    go_wp2
    refine bodyPost_ret (v := .agg #[.bool r1, .slice Au r2.length cu, .int .i64 r3]) (by simp [results, Tryz.results25, go_sem, q0, q1, q2, q3, q4, q5]) rfl ?_
    have lt := ltr.out
    exact ⟨_, rfl, Kd.R_lower (r_set (r_set (r_set R8.out _ (by first | (simp; done) | simpa using lt) _) _ (by first | (simp; done) | simpa using lt) _) _ (by first | (simp; done) | simpa using lt) _) T5.out.keep.size, ((T8.out.keep.setCell (by simp; omega) _).setCell (by simp; omega) _).setCell (by simp; omega) _⟩
theorem plus_lt (k1 k2 k3 k4 k5 : Nat) (ua ub us : List Int) (E : Int) (hE : (if eb < ea then eb else ea) = E) (hla : la.length ≠ 0) (hlb : lb.length ≠ 0) (he0 : -10000000 ≤ ea) (he1 : ea ≤ 10000000) (he2 : -10000000 ≤ eb) (he3 : eb ≤ 10000000) (hu1 : cuspref02_up.f k1 la (ea - E) = some ua) (hu2 : cuspref02_up.f k2 lb (eb - E) = some ub) (r1 : Bool) (r2 : List Int) (r3 o : Int) (hab : na ≠ nb) (hord : cuspref02_order.f k3 ua ub = some o) (ho : o < 0) (hs : cuspref02_less.f k4 ub ua = some us) (hn : cuspref02_norm.f k5 nb us E = some (r1, r2, r3)) :
    Calls Tryz.prog 25 #[.agg #[.bool na, .slice A la.length c, .int .i64 ea], .agg #[.bool nb, .slice B lb.length d, .int .i64 eb]] w (RetR (r1, r2, r3) w) := by
  have T0 := asd (plW_new (na := na) (ea := ea) (c := c) (nb := nb) (eb := eb) (d := d) ha hb)
  have HC := asd hc
  have HD := asd hd
  have z0 : (((la.length : Nat) : Int) == 0) = false := by rw [beq_eq_false_iff_ne]; omega
  have z1 : (((lb.length : Nat) : Int) == 0) = false := by rw [beq_eq_false_iff_ne]; omega
  have hEa : E ≤ ea ∧ E ≤ eb ∧ -10000000 ≤ E := by rw [← hE]; split <;> omega
  obtain ⟨hEa1, hEa2, hEa3⟩ := hEa
  have U1 := asd hu1
  have U2 := asd hu2
  have S1 := asd hs
  have N1 := asd hn
  have tok1 : True := trivial
  have OV := asd hord
  have hab1 : (na == nb) = false := by cases na <;> cases nb <;> simp_all
  have ho1 : decide (o < 0) = true := decide_eq_true ho
  clear ha hc hb hd hla hlb hu1 hu2 hs hn hab hord ho
  go_enter Tryz.func25, Tryz.ntmps25
  go_upto_region 11 with (first
    | (go_at_call 64; have _t := tok1; refine (cuspref02_up.calls k1 A c la (ea - E) ua _ T0.out.ra HC.out U1.out).mono ?_; rintro e1 w4 ⟨v4, rfl, r4, d4⟩; obtain ⟨A4, c4, hv4⟩ := Kd.R_slice r4; subst hv4; have R4 := asd (Kd.R_reads' r4); have T4 := asd (T0.out.step d4); have a40 := T4.out.a.c0; have a41 := T4.out.a.c1; have a42 := T4.out.a.c2; have b40 := T4.out.b.c0; have b41 := T4.out.b.c1; have b42 := T4.out.b.c2; have r40 := T4.out.r.c0; have r41 := T4.out.r.c1; have r42 := T4.out.r.c2; clear d4 r4 _t tok1)
    | (go_at_call 64; refine (cuspref02_up.calls k2 B d lb (eb - E) ub _ T4.out.rb HD.out U2.out).mono ?_; rintro e1 w5 ⟨v5, rfl, r5, d5⟩; obtain ⟨A5, c5, hv5⟩ := Kd.R_slice r5; subst hv5; have R5 := asd (Kd.R_reads' r5); have C4 := asd (Kd.C_below R4.out.2.2 d5); have T5 := asd (T4.out.step d5); have a50 := T5.out.a.c0; have a51 := T5.out.a.c1; have a52 := T5.out.a.c2; have b50 := T5.out.b.c0; have b51 := T5.out.b.c1; have b52 := T5.out.b.c2; have r50 := T5.out.r.c0; have r51 := T5.out.r.c1; have r52 := T5.out.r.c2; clear d5 r5)
    | (go_at_call 67; refine (cuspref02_order.calls k3 A4 c4 ua A5 c5 ub o _ C4.out R4.out.2.1 R5.out.2.2 R5.out.2.1 OV.out).mono ?_; rintro e1 w6 ⟨rfl, d6⟩; have C4' := asd (Kd.C_below C4.out d6.below); have C5' := asd (Kd.C_below R5.out.2.2 d6.below); have T6 := asd (T5.out.step d6.below); have a60 := T6.out.a.c0; have a61 := T6.out.a.c1; have a62 := T6.out.a.c2; have b60 := T6.out.b.c0; have b61 := T6.out.b.c1; have b62 := T6.out.b.c2; have r60 := T6.out.r.c0; have r61 := T6.out.r.c1; have r62 := T6.out.r.c2; clear d6))
  go_region_held3 (fun w' => w'.cell? ⟨w.heap.size + 1, 0, none⟩ = some (.bool nb))
    (first | exact b60 | exact S8.out | exact S7.out | (have _s := S8; exact (set3_cell _ _ _ _ _ _ _ (by omega)).trans S8.out) | go_keep)
    ((first
      | (go_at_call 68; refine (cuspref02_less.calls k4 A5 c5 ub A4 c4 ua us _ (Kd.C_below C5'.out (by first | exact Below.refl _ _ | exact (Below.refl _ _).drew)) R5.out.2.1 (Kd.C_below C4'.out (by first | exact Below.refl _ _ | exact (Below.refl _ _).drew)) R4.out.2.1 S1.out).mono ?_; rintro e1 w7 ⟨v7, rfl, r7, d7⟩; have B7 := asd (show Below w6.heap.size w6 w7 from below_post d7 (by first | exact Below.refl _ _ | exact (Below.refl _ _).drew)); have R7 := asd (show Kd.R (Kd.int .u32) 83 w7 w6.heap.size (fun _ => True) v7 us from r7); have T7 := asd (T6.out.step B7.out); have S7 := asd (show w7.cell? ⟨w.heap.size + 1, 0, none⟩ = some (.bool nb) from T7.out.b.c0); clear d7 r7)
      | (go_at_call 65; refine (cuspref02_norm.calls k5 nb (fun _ => True) _ us E r1 r2 r3 w6 _ (below_post (by first | exact Below.refl _ _ | exact (Below.refl _ _).drew) B7.out) (by first | exact R7.out | exact Kd.R_drew R7.out) N1.out).mono ?_; rintro e1 w8 ⟨v8, rfl, r8, d8, _⟩; obtain ⟨Au, cu, hu⟩ := Kd.R_slice r8; subst hu; have T8 := asd (T6.out.step d8); have R8 := asd (Kd.R_mono r8 (fun _ _ => (trivial : True))); have ltr := asd (blk_lt T6.out.r); have q0 := T8.out.r.c0; have q1 := T8.out.r.c1; have q2 := T8.out.r.c2; have q3 := T8.out.r.fr 0; have q4 := T8.out.r.fr 1; have q5 := T8.out.r.fr 2; have S8 := asd (show w8.cell? ⟨w.heap.size + 1, 0, none⟩ = some (.bool nb) from T8.out.b.c0); clear d8 r8)))
  all_goals
    go_wp2
    refine bodyPost_ret (v := .agg #[.bool r1, .slice Au r2.length cu, .int .i64 r3]) (by simp [results, Tryz.results25, go_sem, q0, q1, q2, q3, q4, q5]) rfl ?_
    have lt := ltr.out
    exact ⟨_, rfl, Kd.R_lower (r_set (r_set (r_set R8.out _ (by first | (simp; done) | simpa using lt) _) _ (by first | (simp; done) | simpa using lt) _) _ (by first | (simp; done) | simpa using lt) _) T6.out.keep.size, ((T8.out.keep.setCell (by simp; omega) _).setCell (by simp; omega) _).setCell (by simp; omega) _⟩
theorem plus_ge (k1 k2 k3 k4 k5 : Nat) (ua ub us : List Int) (E : Int) (hE : (if eb < ea then eb else ea) = E) (hla : la.length ≠ 0) (hlb : lb.length ≠ 0) (he0 : -10000000 ≤ ea) (he1 : ea ≤ 10000000) (he2 : -10000000 ≤ eb) (he3 : eb ≤ 10000000) (hu1 : cuspref02_up.f k1 la (ea - E) = some ua) (hu2 : cuspref02_up.f k2 lb (eb - E) = some ub) (r1 : Bool) (r2 : List Int) (r3 o : Int) (hab : na ≠ nb) (hord : cuspref02_order.f k3 ua ub = some o) (ho : 0 ≤ o) (hs : cuspref02_less.f k4 ua ub = some us) (hn : cuspref02_norm.f k5 na us E = some (r1, r2, r3)) :
    Calls Tryz.prog 25 #[.agg #[.bool na, .slice A la.length c, .int .i64 ea], .agg #[.bool nb, .slice B lb.length d, .int .i64 eb]] w (RetR (r1, r2, r3) w) := by
  have T0 := asd (plW_new (na := na) (ea := ea) (c := c) (nb := nb) (eb := eb) (d := d) ha hb)
  have HC := asd hc
  have HD := asd hd
  have z0 : (((la.length : Nat) : Int) == 0) = false := by rw [beq_eq_false_iff_ne]; omega
  have z1 : (((lb.length : Nat) : Int) == 0) = false := by rw [beq_eq_false_iff_ne]; omega
  have hEa : E ≤ ea ∧ E ≤ eb ∧ -10000000 ≤ E := by rw [← hE]; split <;> omega
  obtain ⟨hEa1, hEa2, hEa3⟩ := hEa
  have U1 := asd hu1
  have U2 := asd hu2
  have S1 := asd hs
  have N1 := asd hn
  have tok1 : True := trivial
  have OV := asd hord
  have hab1 : (na == nb) = false := by cases na <;> cases nb <;> simp_all
  have ho1 : decide (o < 0) = false := decide_eq_false (by omega)
  clear ha hc hb hd hla hlb hu1 hu2 hs hn hab hord ho
  go_enter Tryz.func25, Tryz.ntmps25
  go_upto_region 12 with (first
    | (go_at_call 64; have _t := tok1; refine (cuspref02_up.calls k1 A c la (ea - E) ua _ T0.out.ra HC.out U1.out).mono ?_; rintro e1 w4 ⟨v4, rfl, r4, d4⟩; obtain ⟨A4, c4, hv4⟩ := Kd.R_slice r4; subst hv4; have R4 := asd (Kd.R_reads' r4); have T4 := asd (T0.out.step d4); have a40 := T4.out.a.c0; have a41 := T4.out.a.c1; have a42 := T4.out.a.c2; have b40 := T4.out.b.c0; have b41 := T4.out.b.c1; have b42 := T4.out.b.c2; have r40 := T4.out.r.c0; have r41 := T4.out.r.c1; have r42 := T4.out.r.c2; clear d4 r4 _t tok1)
    | (go_at_call 64; refine (cuspref02_up.calls k2 B d lb (eb - E) ub _ T4.out.rb HD.out U2.out).mono ?_; rintro e1 w5 ⟨v5, rfl, r5, d5⟩; obtain ⟨A5, c5, hv5⟩ := Kd.R_slice r5; subst hv5; have R5 := asd (Kd.R_reads' r5); have C4 := asd (Kd.C_below R4.out.2.2 d5); have T5 := asd (T4.out.step d5); have a50 := T5.out.a.c0; have a51 := T5.out.a.c1; have a52 := T5.out.a.c2; have b50 := T5.out.b.c0; have b51 := T5.out.b.c1; have b52 := T5.out.b.c2; have r50 := T5.out.r.c0; have r51 := T5.out.r.c1; have r52 := T5.out.r.c2; clear d5 r5)
    | (go_at_call 67; refine (cuspref02_order.calls k3 A4 c4 ua A5 c5 ub o _ C4.out R4.out.2.1 R5.out.2.2 R5.out.2.1 OV.out).mono ?_; rintro e1 w6 ⟨rfl, d6⟩; have C4' := asd (Kd.C_below C4.out d6.below); have C5' := asd (Kd.C_below R5.out.2.2 d6.below); have T6 := asd (T5.out.step d6.below); have a60 := T6.out.a.c0; have a61 := T6.out.a.c1; have a62 := T6.out.a.c2; have b60 := T6.out.b.c0; have b61 := T6.out.b.c1; have b62 := T6.out.b.c2; have r60 := T6.out.r.c0; have r61 := T6.out.r.c1; have r62 := T6.out.r.c2; clear d6))
  go_region_held3 (fun w' => w'.cell? ⟨w.heap.size, 0, none⟩ = some (.bool na))
    (first | exact a60 | exact S8.out | exact S7.out | (have _s := S8; exact (set3_cell _ _ _ _ _ _ _ (by omega)).trans S8.out) | go_keep)
    ((first
      | (go_at_call 68; refine (cuspref02_less.calls k4 A4 c4 ua A5 c5 ub us _ (Kd.C_below C4'.out (by first | exact Below.refl _ _ | exact (Below.refl _ _).drew)) R4.out.2.1 (Kd.C_below C5'.out (by first | exact Below.refl _ _ | exact (Below.refl _ _).drew)) R5.out.2.1 S1.out).mono ?_; rintro e1 w7 ⟨v7, rfl, r7, d7⟩; have B7 := asd (show Below w6.heap.size w6 w7 from below_post d7 (by first | exact Below.refl _ _ | exact (Below.refl _ _).drew)); have R7 := asd (show Kd.R (Kd.int .u32) 83 w7 w6.heap.size (fun _ => True) v7 us from r7); have T7 := asd (T6.out.step B7.out); have S7 := asd (show w7.cell? ⟨w.heap.size, 0, none⟩ = some (.bool na) from T7.out.a.c0); clear d7 r7)
      | (go_at_call 65; refine (cuspref02_norm.calls k5 na (fun _ => True) _ us E r1 r2 r3 w6 _ (below_post (by first | exact Below.refl _ _ | exact (Below.refl _ _).drew) B7.out) (by first | exact R7.out | exact Kd.R_drew R7.out) N1.out).mono ?_; rintro e1 w8 ⟨v8, rfl, r8, d8, _⟩; obtain ⟨Au, cu, hu⟩ := Kd.R_slice r8; subst hu; have T8 := asd (T6.out.step d8); have R8 := asd (Kd.R_mono r8 (fun _ _ => (trivial : True))); have ltr := asd (blk_lt T6.out.r); have q0 := T8.out.r.c0; have q1 := T8.out.r.c1; have q2 := T8.out.r.c2; have q3 := T8.out.r.fr 0; have q4 := T8.out.r.fr 1; have q5 := T8.out.r.fr 2; have S8 := asd (show w8.cell? ⟨w.heap.size, 0, none⟩ = some (.bool na) from T8.out.a.c0); clear d8 r8)))
  all_goals
    go_wp2
    refine bodyPost_ret (v := .agg #[.bool r1, .slice Au r2.length cu, .int .i64 r3]) (by simp [results, Tryz.results25, go_sem, q0, q1, q2, q3, q4, q5]) rfl ?_
    have lt := ltr.out
    exact ⟨_, rfl, Kd.R_lower (r_set (r_set (r_set R8.out _ (by first | (simp; done) | simpa using lt) _) _ (by first | (simp; done) | simpa using lt) _) _ (by first | (simp; done) | simpa using lt) _) T6.out.keep.size, ((T8.out.keep.setCell (by simp; omega) _).setCell (by simp; omega) _).setCell (by simp; omega) _⟩
end
end Go.Proofs.YthmeocigliephaaGreatDoor.Big
end
section
namespace Go.Proofs.YthmeocigliephaaGreatDoor.Big
open Go.Proofs.YthmeocigliephaaGreatDoor.PSu Go.Proofs.YthmeocigliephaaGreatDoor.Plain
def plusN (na : Bool) (la : List Int) (ea : Int) (nb : Bool) (lb : List Int) (eb : Int) : Bool × List Int × Int :=
  if la.length = 0 then (nb, lb, eb) else if lb.length = 0 then (na, la, ea)
  else canN (zv na la * 2 ^ (ea - mn ea eb).toNat + zv nb lb * 2 ^ (eb - mn ea eb).toNat) (mn ea eb)
theorem zv_pow (na : Bool) (l : List Int) (k : Nat) : zv na l * 2 ^ k = if na = true then -((val l * 2 ^ k : Nat) : Int) else ((val l * 2 ^ k : Nat) : Int) := by
  unfold zv
  cases na
  · rw [if_neg (by simp), if_neg (by simp), Int.natCast_mul, Int.natCast_pow]; rfl
  · rw [if_pos rfl, if_pos rfl, Int.neg_mul, Int.natCast_mul, Int.natCast_pow]; rfl
theorem up_length {p k j : Nat} (h : (dig p).length ≤ k) : (dig (p * 2 ^ j)).length ≤ k + j / 32 + 1 := by
  refine dig_length_le ?_
  have h1 := lt_dig_length p
  calc p * 2 ^ j < 2 ^ (32 * (dig p).length) * 2 ^ j := Nat.mul_lt_mul_of_pos_right h1 (Nat.pow_pos (by omega))
    _ = 2 ^ (32 * (dig p).length + j) := by rw [← Nat.pow_add]
    _ ≤ _ := Nat.pow_le_pow_right (by omega) (by omega)
theorem add_length {p q k : Nat} (h : (dig p).length ≤ k) (h2 : (dig q).length ≤ k) : (dig (p + q)).length ≤ k + 1 := by
  refine dig_length_le ?_
  have h3 : p < 2 ^ (32 * k) := Nat.lt_of_lt_of_le (lt_dig_length p) (Nat.pow_le_pow_right (by omega) (by omega))
  have h4 : q < 2 ^ (32 * k) := Nat.lt_of_lt_of_le (lt_dig_length q) (Nat.pow_le_pow_right (by omega) (by omega))
  rw [pow32_succ]; omega
theorem plus_any (na : Bool) (la : List Int) (ea : Int) (A : Option Addr) (c : Nat) (nb : Bool) (lb : List Int) (eb : Int) (B : Option Addr) (d : Nat) (w : World)
    (ha : Kd.C (Kd.int .u32) w A la.length la) (hc : la.length ≤ c) (hb : Kd.C (Kd.int .u32) w B lb.length lb) (hd : lb.length ≤ d) (oa : IsO la ea) (ob : IsO lb eb) :
    Calls Tryz.prog 25 #[.agg #[.bool na, .slice A la.length c, .int .i64 ea], .agg #[.bool nb, .slice B lb.length d, .int .i64 eb]] w (RetR (plusN na la ea nb lb eb) w) := by
  obtain ⟨a1, a2, a3, a4⟩ := oa
  obtain ⟨b1, b2, b3, b4⟩ := ob
  unfold plusN
  by_cases hla : la.length = 0
  · rw [if_pos hla]
    exact plus_a0 na la ea A c nb lb eb B d w ha hc hb hd hla (by omega)
  · rw [if_neg hla]
    by_cases hlb : lb.length = 0
    · rw [if_pos hlb]
      exact plus_b0 na la ea A c nb lb eb B d w ha hc hb hd hla hlb (by omega)
    · rw [if_neg hlb]
      obtain ⟨a1, _⟩ := a1.resolve_left hla
      obtain ⟨b1, _⟩ := b1.resolve_left hlb
      obtain ⟨E, hE⟩ : ∃ E, mn ea eb = E := ⟨_, rfl⟩
      rw [hE]
      have hE1 : E ≤ ea ∧ E ≤ eb ∧ -1000000 ≤ E ∧ E ≤ 1000000 := by rw [← hE]; unfold mn; split <;> omega
      obtain ⟨i, hi⟩ : ∃ i, (ea - E).toNat = i := ⟨_, rfl⟩
      obtain ⟨j, hj⟩ : ∃ j, (eb - E).toNat = j := ⟨_, rfl⟩
      rw [hi, hj]
      obtain ⟨p, hp⟩ : ∃ p, val la = p := ⟨_, rfl⟩
      obtain ⟨q, hq⟩ : ∃ q, val lb = q := ⟨_, rfl⟩
      rw [hp] at a1
      rw [hq] at b1
      have lp : (dig p).length ≤ 100000 := by rw [a1]; exact a2
      have lq : (dig q).length ≤ 100000 := by rw [b1]; exact b2
      obtain ⟨k1, u1⟩ := (rup_law p i (by omega)).rounds
      obtain ⟨k2, u2⟩ := (rup_law q j (by omega)).rounds
      rw [a1, show ((i : Nat) : Int) = ea - E by omega] at u1
      rw [b1, show ((j : Nat) : Int) = eb - E by omega] at u2
      have lP := up_length (j := i) lp
      have lQ := up_length (j := j) lq
      rw [zv_pow, zv_pow, hp, hq]
      obtain ⟨P, hP⟩ : ∃ P, p * 2 ^ i = P := ⟨_, rfl⟩
      obtain ⟨Q, hQ⟩ : ∃ Q, q * 2 ^ j = Q := ⟨_, rfl⟩
      rw [hP] at u1 lP ⊢
      rw [hQ] at u2 lQ ⊢
      have lP' : (dig P).length ≤ 200000 := by omega
      have lQ' : (dig Q).length ≤ 200000 := by omega
      have lS := add_length lP' lQ'
      by_cases hab : na = nb
      · obtain ⟨k4, s4⟩ := (rsum_law P Q (by omega) (by omega)).rounds
        obtain ⟨k5, s5⟩ := (rnorm_law na (dig (P + Q)) E (dg_dig _) (by omega) (by omega) (by omega)).rounds
        rw [val_dig] at s5
        have hz : (if na = true then -((P + Q : Nat) : Int) else ((P + Q : Nat) : Int)) = (if na = true then -(P : Int) else (P : Int)) + (if nb = true then -(Q : Int) else (Q : Int)) := by
          rw [← hab]; cases na
          · rw [if_neg (by simp), if_neg (by simp), if_neg (by simp)]; omega
          · rw [if_pos rfl, if_pos rfl, if_pos rfl]; omega
        rw [hz] at s5
        exact plus_same na la ea A c nb lb eb B d w ha hc hb hd k1 k2 0 k4 k5 _ _ _ E (by rw [← hE]; rfl) hla hlb (by omega) (by omega) (by omega) (by omega) u1 u2 _ _ _ hab s4 s5
      · obtain ⟨k3, s3⟩ := (rorder_law P Q (by omega)).rounds
        by_cases hlt : P < Q
        · rw [cmpN_lt hlt] at s3
          obtain ⟨k4, s4⟩ := (rless_law Q P (by omega) (by omega)).rounds
          have lD : (dig (Q - P)).length ≤ (dig Q).length := dig_length_mono (by omega)
          obtain ⟨k5, s5⟩ := (rnorm_law nb (dig (Q - P)) E (dg_dig _) (by omega) (by omega) (by omega)).rounds
          rw [val_dig] at s5
          have hz : (if nb = true then -((Q - P : Nat) : Int) else ((Q - P : Nat) : Int)) = (if na = true then -(P : Int) else (P : Int)) + (if nb = true then -(Q : Int) else (Q : Int)) := by
            cases na <;> cases nb
            · exact absurd rfl hab
            · rw [if_pos rfl, if_neg (by simp), if_pos rfl]; omega
            · rw [if_neg (by simp), if_pos rfl, if_neg (by simp)]; omega
            · exact absurd rfl hab
          rw [hz] at s5
          exact plus_lt na la ea A c nb lb eb B d w ha hc hb hd k1 k2 k3 k4 k5 _ _ _ E (by rw [← hE]; rfl) hla hlb (by omega) (by omega) (by omega) (by omega) u1 u2 _ _ _ _ hab s3 (by omega) s4 s5
        · have s3' : ∃ o, 0 ≤ o ∧ cuspref02_order.f k3 (dig P) (dig Q) = some o := ⟨_, by unfold cmpN; rw [if_neg hlt]; split <;> omega, s3⟩
          obtain ⟨o, ho, s3⟩ := s3'
          obtain ⟨k4, s4⟩ := (rless_law P Q (by omega) (by omega)).rounds
          have lD : (dig (P - Q)).length ≤ (dig P).length := dig_length_mono (by omega)
          obtain ⟨k5, s5⟩ := (rnorm_law na (dig (P - Q)) E (dg_dig _) (by omega) (by omega) (by omega)).rounds
          rw [val_dig] at s5
          have hz : (if na = true then -((P - Q : Nat) : Int) else ((P - Q : Nat) : Int)) = (if na = true then -(P : Int) else (P : Int)) + (if nb = true then -(Q : Int) else (Q : Int)) := by
            cases na <;> cases nb
            · exact absurd rfl hab
            · rw [if_neg (by simp), if_neg (by simp), if_pos rfl]; omega
            · rw [if_pos rfl, if_pos rfl, if_neg (by simp)]; omega
            · exact absurd rfl hab
          rw [hz] at s5
          exact plus_ge na la ea A c nb lb eb B d w ha hc hb hd k1 k2 k3 k4 k5 _ _ _ E (by rw [← hE]; rfl) hla hlb (by omega) (by omega) (by omega) (by omega) u1 u2 _ _ _ _ hab s3 ho s4 s5
theorem plus_can (x y e : Int) : plusN (canN x e).1 (canN x e).2.1 (canN x e).2.2 (canN y e).1 (canN y e).2.1 (canN y e).2.2 = canN (x + y) e := by
  unfold plusN
  by_cases hx0 : x = 0
  · subst hx0; rw [Int.zero_add, canN_zero]; rfl
  · have hxl : ¬ (canN x e).2.1.length = 0 := fun h => hx0 ((can_nil e).1 (List.length_eq_zero_iff.1 h))
    rw [if_neg hxl]
    by_cases hy0 : y = 0
    · subst hy0; rw [Int.add_zero, canN_zero]; rfl
    · have hyl : ¬ (canN y e).2.1.length = 0 := fun h => hy0 ((can_nil e).1 (List.length_eq_zero_iff.1 h))
      rw [if_neg hyl]
      obtain ⟨h1, h2, h3⟩ := zv_can hx0 e
      obtain ⟨k1, k2, k3⟩ := zv_can hy0 e
      have hm : ∃ j : Nat, mn (canN x e).2.2 (canN y e).2.2 = e + j ∧ ((canN x e).2.2 - mn (canN x e).2.2 (canN y e).2.2).toNat + j = tz x.natAbs ∧ ((canN y e).2.2 - mn (canN x e).2.2 (canN y e).2.2).toNat + j = tz y.natAbs := by
        rw [h3, k3]
        unfold mn
        split
        · exact ⟨tz y.natAbs, by omega, by omega, by omega⟩
        · exact ⟨tz x.natAbs, by omega, by omega, by omega⟩
      obtain ⟨j, j1, j2, j3⟩ := hm
      have hs : (zv (canN x e).1 (canN x e).2.1 * 2 ^ ((canN x e).2.2 - mn (canN x e).2.2 (canN y e).2.2).toNat + zv (canN y e).1 (canN y e).2.1 * 2 ^ ((canN y e).2.2 - mn (canN x e).2.2 (canN y e).2.2).toNat) * 2 ^ j = x + y := by
        rw [Int.add_mul, Int.mul_assoc, Int.mul_assoc, ← Int.pow_add, ← Int.pow_add, j2, j3, h1, k1]
      rw [j1] at hs ⊢
      rw [← canN_shift, hs]
theorem isO_can {z e : Int} (h1 : bl z.natAbs ≤ 1000000) (h2 : -1000000 ≤ e) (h3 : e + (bl z.natAbs : Int) ≤ 1000000) : IsO (canN z e).2.1 (canN z e).2.2 := by
  by_cases h : z = 0
  · subst h; rw [canN_zero]; exact ⟨.inl rfl, by simp, by simp, by simp⟩
  · have hn : z.natAbs ≠ 0 := by omega
    have h4 := bl_mul_pow (odd_ne hn) (tz z.natAbs)
    rw [odd_mul hn] at h4
    have h5 := odd_odd hn
    rw [canN_ne h]
    refine ⟨.inr ⟨by rw [val_dig], by rw [val_dig]; exact h5⟩, ?_, by show -1000000 ≤ e + (tz z.natAbs : Int); omega, by show e + (tz z.natAbs : Int) ≤ 1000000; omega⟩
    have h6 : bl (odd z.natAbs) ≤ 32 * 31250 := by omega
    have h7 := dig_length_le (bl_le.1 h6)
    exact Nat.le_trans h7 (by omega)
end Go.Proofs.YthmeocigliephaaGreatDoor.Big
namespace Go.Proofs.YthmeocigliephaaGreatDoor
open Go.Proofs.YthmeocigliephaaGreatDoor.PSu Go.Proofs.YthmeocigliephaaGreatDoor.Plain Go.Proofs.YthmeocigliephaaGreatDoor.Big
def cuspref02_Plus.f (a0_0 : Bool) (l0_1 : List Int) (a0_2 : Int) (a1_0 : Bool) (l1_1 : List Int) (a1_2 : Int) : Option (Bool × List Int × Int) :=
  if IsO l0_1 a0_2 ∧ IsO l1_1 a1_2 then some (plusN a0_0 l0_1 a0_2 a1_0 l1_1 a1_2) else none
theorem cuspref02_Plus.calls (a0_0 : Bool) (A0_1 : Option Addr) (c0_1 : Nat) (l0_1 : List Int) (a0_2 : Int) (a1_0 : Bool) (A1_1 : Option Addr) (c1_1 : Nat) (l1_1 : List Int) (a1_2 : Int) (r1 : Bool) (r2 : List Int) (r3 : Int) (w : World)
    (hr0_1 : Kd.C (Kd.int .u32) w A0_1 l0_1.length l0_1) (hc0_1 : l0_1.length ≤ c0_1) (hr1_1 : Kd.C (Kd.int .u32) w A1_1 l1_1.length l1_1) (hc1_1 : l1_1.length ≤ c1_1)
    (h : cuspref02_Plus.f a0_0 l0_1 a0_2 a1_0 l1_1 a1_2 = some (r1, r2, r3)) :
    Calls Tryz.prog 25 #[.agg #[.bool a0_0, .slice A0_1 l0_1.length c0_1, .int .i64 a0_2], .agg #[.bool a1_0, .slice A1_1 l1_1.length c1_1, .int .i64 a1_2]] w fun e w' => ∃ v1_ : Value, e = .returned (.agg #[.bool r1, v1_, .int .i64 r3]) ∧ Kd.R (Kd.int .u32) 83 w' w.heap.size (fun _ => True) v1_ r2 ∧ Below w.heap.size w w' := by
  unfold cuspref02_Plus.f at h
  split at h
  · rename_i hf
    have := plus_any a0_0 l0_1 a0_2 A0_1 c0_1 a1_0 l1_1 a1_2 A1_1 c1_1 w hr0_1 hc0_1 hr1_1 hc1_1 hf.1 hf.2
    rw [Option.some.inj h] at this
    exact this
  · cases h
end Go.Proofs.YthmeocigliephaaGreatDoor
end
section
namespace Go.Proofs.YthmeocigliephaaGreatDoor.Big
open Go.Proofs.YthmeocigliephaaGreatDoor.PSu Go.Proofs.YthmeocigliephaaGreatDoor.Plain
theorem incV_shift (n K j : Nat) (up near : Bool) : incV (n * 2 ^ j) (K + 1 + j) up near = incV n (K + 1) up near := by
  have hj : 0 < 2 ^ j := Nat.pow_pos (by omega)
  have e1 : n * 2 ^ j % 2 ^ (K + 1 + j) = n % 2 ^ (K + 1) * 2 ^ j := by rw [Nat.pow_add]; exact Nat.mul_mod_mul_right _ _ _
  have e2 : n * 2 ^ j / 2 ^ (K + 1 + j) = n / 2 ^ (K + 1) := by rw [Nat.pow_add]; exact Nat.mul_div_mul_right _ _ hj
  have e3 : 2 ^ (K + 1 + j - 1) = 2 ^ K * 2 ^ j := by rw [← Nat.pow_add]; congr 1; omega
  unfold incV
  rw [e1, e2, e3, Nat.add_sub_cancel]
  generalize n % 2 ^ (K + 1) = r
  generalize 2 ^ K = h
  have d1 : decide (r * 2 ^ j ≠ 0) = decide (r ≠ 0) := by
    rw [decide_eq_decide]
    exact not_congr ⟨fun h => (Nat.mul_eq_zero.1 h).resolve_right (by omega), fun h => by rw [h, Nat.zero_mul]⟩
  have d2 : decide (h * 2 ^ j < r * 2 ^ j) = decide (h < r) := by rw [decide_eq_decide]; exact Nat.mul_lt_mul_right hj
  have d3 : decide (r * 2 ^ j = h * 2 ^ j) = decide (r = h) := by
    rw [decide_eq_decide]; exact ⟨fun e => Nat.mul_right_cancel hj e, fun e => by rw [e]⟩
  rw [d1, d2, d3]
theorem magV_shift {n : Nat} (hn : n ≠ 0) (j : Nat) (e : Int) (up near : Bool) : magV (n * 2 ^ j) e up near = magV n (e + j) up near := by
  have hj : 0 < 2 ^ j := Nat.pow_pos (by omega)
  have hb := bl_mul_pow hn j
  have ht : ((bl (n * 2 ^ j) : Nat) : Int) + e = (bl n : Int) + (e + j) := by omega
  unfold magV
  rw [ht]
  obtain ⟨t, htt⟩ : ∃ t, (bl n : Int) + (e + j) = t := ⟨_, rfl⟩
  rw [htt]
  by_cases h1 : 1024 < t
  · rw [if_pos h1, if_pos h1]
  · rw [if_neg h1, if_neg h1]
    by_cases h2 : t < -1075
    · rw [if_pos h2, if_pos h2]
    · rw [if_neg h2, if_neg h2]
      obtain ⟨L, hL⟩ : ∃ L, lastV t = L := ⟨_, rfl⟩
      rw [hL]
      by_cases h3 : L ≤ e
      · rw [if_pos h3, if_pos (by omega), Nat.mul_assoc, ← Nat.pow_add]
        congr 3; omega
      · rw [if_neg h3]
        by_cases h4 : L ≤ e + j
        · rw [if_pos h4]
          obtain ⟨K, hK⟩ : ∃ K, (L - e).toNat = K + 1 := ⟨(L - e).toNat - 1, by omega⟩
          have e1 : n * 2 ^ j = n * 2 ^ (e + j - L).toNat * 2 ^ (K + 1) := by rw [Nat.mul_assoc, ← Nat.pow_add]; congr 2; omega
          have hp : 0 < 2 ^ (K + 1) := Nat.pow_pos (by omega)
          have hp2 : 0 < 2 ^ K := Nat.pow_pos (by omega)
          have hi : incV (n * 2 ^ j) (K + 1) up near = false := by
            unfold incV
            rw [e1, Nat.mul_mod_left, Nat.add_sub_cancel, decide_eq_false (show ¬ (0 ≠ 0) by simp), decide_eq_false (show ¬ 2 ^ K < 0 by omega), decide_eq_false (show ¬ 0 = 2 ^ K by omega)]
            simp
          rw [hK, hi, if_neg (by simp), e1, Nat.mul_div_cancel _ hp, Nat.add_zero]
        · rw [if_neg h4]
          obtain ⟨K, hK⟩ : ∃ K, (L - (e + j)).toNat = K + 1 := ⟨(L - (e + j)).toNat - 1, by omega⟩
          rw [show (L - e).toNat = K + 1 + j by omega, hK, incV_shift, Nat.pow_add, Nat.mul_div_mul_right _ _ hj]
def rndZ (z mode : Int) : Nat := if z = 0 then 0 else roundV (decide (z < 0)) z.natAbs (-1074) mode
theorem roundV_can {z : Int} (h : z ≠ 0) (mode : Int) : roundV (canN z (-1074)).1 (val (canN z (-1074)).2.1) (canN z (-1074)).2.2 mode = rndZ z mode := by
  have hn : z.natAbs ≠ 0 := by omega
  obtain ⟨_, h2, h3⟩ := zv_can h (-1074)
  have h4 := odd_mul hn
  unfold rndZ
  rw [if_neg h, h2, h3, roundV_eq, roundV_eq]
  have h5 := magV_shift (odd_ne hn) (tz z.natAbs) (-1074)
  rw [h4] at h5
  rw [h5, canN_ne h]
theorem can_length {z e : Int} : (canN z e).2.1.length = 0 ↔ z = 0 := by rw [List.length_eq_zero_iff, can_nil]
theorem round_can {z mode : Int} (h1 : bl z.natAbs ≤ 60000) (hm : 1 ≤ mode ∧ mode ≤ 3) : dyad_Round.f (canN z (-1074)).1 (canN z (-1074)).2.1 (canN z (-1074)).2.2 mode = some (rndZ z mode, 0) := by
  unfold dyad_Round.f roundN
  rw [if_pos (isN_can (by omega) (by omega) (by omega)), if_pos hm]
  by_cases h : z = 0
  · rw [if_pos (can_length.2 h)]; unfold rndZ; rw [if_pos h]
  · rw [if_neg (fun h' => h (can_length.1 h')), roundV_can h]
theorem rplus_can {x y : Int} (hx : bl x.natAbs ≤ 900000) (hy : bl y.natAbs ≤ 900000) : cuspref02_Plus.f (canN x (-1074)).1 (canN x (-1074)).2.1 (canN x (-1074)).2.2 (canN y (-1074)).1 (canN y (-1074)).2.1 (canN y (-1074)).2.2 = some (canN (x + y) (-1074)) := by
  unfold cuspref02_Plus.f
  rw [if_pos ⟨isO_can (by omega) (by omega) (by omega), isO_can (by omega) (by omega) (by omega)⟩, plus_can]
theorem sign_can {z : Int} (h1 : bl z.natAbs ≤ 60000) : dyad_Sign.f 1 (canN z (-1074)).1 (canN z (-1074)).2.1 (canN z (-1074)).2.2 = some (if z = 0 then (0 : Int) else if z < 0 then -1 else 1) := by
  rw [sign_law (isN_can (by omega) (by omega) (by omega))]
  by_cases h : z = 0
  · rw [if_pos (can_length.2 h), if_pos h]
  · rw [if_neg (fun h' => h (can_length.1 h')), if_neg h, canN_ne h]
    simp
theorem nan_fin {a : Nat} (h : Fin64 a) : ((FloatKind.f64.format.order a a) != some .eq) = false := by rw [order_self h]; rfl
theorem inf_fin {a : Nat} (h : Fin64 a) : round_infinite.f a = some false := by
  unfold round_infinite.f math_IsInf.f math_Abs.f
  rw [if_pos rfl, Option.bind_some, bits_abs a h.1]
  simp only [Int.toNat_natCast, Option.bind_some]
  rw [order_max h]
theorem rnum_law {b : Nat} (h : Fin64 b) : round_num.f b = some (canN (flz b) (-1074)) := by
  unfold round_num.f
  rw [of_law h]; rfl
theorem sum_bl {a b : Nat} (ha : Fin64 a) (hb : Fin64 b) : bl (flz a + flz b).natAbs ≤ 2100 := by
  have h1 := flz_lt ha
  have h2 := flz_lt hb
  have h3 := Int.natAbs_add_le (flz a) (flz b)
  refine bl_le.2 (Nat.lt_of_le_of_lt h3 ?_)
  have : (2 : Nat) ^ 2100 = 4 * 2 ^ 2098 := by rw [Nat.pow_succ, Nat.pow_succ]
  omega
end Go.Proofs.YthmeocigliephaaGreatDoor.Big
end
section
namespace Go.Proofs.YthmeocigliephaaGreatDoor.Big
open Go.Proofs.YthmeocigliephaaGreatDoor.PSu Go.Proofs.YthmeocigliephaaGreatDoor.Plain
theorem neg_can (y e : Int) : (canN (-y) e) = (if y = 0 then (false, [], 0) else (!(canN y e).1, (canN y e).2.1, (canN y e).2.2)) := by
  by_cases h : y = 0
  · subst h; rw [if_pos rfl]; rfl
  · rw [if_neg h, canN_ne (show -y ≠ 0 by omega), canN_ne h, Int.natAbs_neg]
    have : decide (-y < 0) = !decide (y < 0) := by
      by_cases h1 : y < 0
      · rw [decide_eq_true h1, decide_eq_false (by omega)]; rfl
      · rw [decide_eq_false h1, decide_eq_true (by omega)]; rfl
    rw [this]
theorem dneg_law {y : Int} (hy : bl y.natAbs ≤ 50000) : dyad_Neg.f (canN y (-1074)).1 (canN y (-1074)).2.1 (canN y (-1074)).2.2 = some (canN (-y) (-1074)) := by
  have hv := isN_can (z := y) (e := -1074) (by omega) (by omega) (by omega)
  have hf := hv.facts
  unfold dyad_Neg.f
  rw [show PSu.dyad_Valid.f _ _ _ = some true from hv.1, Option.bind_some, if_pos rfl, neg_can]
  by_cases h : y = 0
  · rw [if_pos (by have := can_length (e := -1074).2 h; omega), if_pos h]
  · rw [if_neg (fun h' => h ((can_length (e := -1074)).1 (by omega))), if_neg h, Option.bind_some, if_pos (by simp; omega)]
    rfl
theorem dvalid_two (k : Nat) (a b : PSu.S60) (hv : PSu.dyad_Valid.f a.f0 a.f1 a.f2 = some true) (hw : PSu.dyad_Valid.f b.f0 b.f1 b.f2 = some true) : dyad_valid.f (k + 3) [a, b] = some true := by
  unfold dyad_valid.f
  have w1 : wrap64 ((0 : Int) + 1) = 1 := by decide +kernel
  have w2 : wrap64 ((1 : Int) + 1) = 2 := by decide +kernel
  rw [dyad_valid.l0, if_pos (by simp), if_pos (by simp), if_pos (by simp), show PSu.rd_T60 [a, b] 0 = a from rfl, hv, Option.bind_some, if_pos rfl, w1,
    dyad_valid.l0, if_pos (by simp), if_pos (by simp), if_pos (by simp), show PSu.rd_T60 [a, b] 1 = b from rfl, hw, Option.bind_some, if_pos rfl, w2, dyad_valid.l0, if_neg (by simp)]
theorem dsub_law (k : Nat) {x y : Int} (hx : bl x.natAbs ≤ 50000) (hy : bl y.natAbs ≤ 50000) : dyad_Sub.f (k + 3) (canN x (-1074)).1 (canN x (-1074)).2.1 (canN x (-1074)).2.2 (canN y (-1074)).1 (canN y (-1074)).2.1 (canN y (-1074)).2.2 = some ((canN (x - y) (-1074)).1, (canN (x - y) (-1074)).2.1, (canN (x - y) (-1074)).2.2, 0) := by
  unfold dyad_Sub.f
  rw [dvalid_two k ⟨(canN x (-1074)).1, (canN x (-1074)).2.1, (canN x (-1074)).2.2⟩ ⟨(canN y (-1074)).1, (canN y (-1074)).2.1, (canN y (-1074)).2.2⟩ (isN_can (z := x) (e := -1074) (by omega) (by omega) (by omega)).1 (isN_can (z := y) (e := -1074) (by omega) (by omega) (by omega)).1, Option.bind_some, if_pos rfl, dneg_law hy, Option.bind_some, dadd_law hx (by rw [Int.natAbs_neg]; exact hy), Option.bind_some, show x + -y = x - y by omega]
end Go.Proofs.YthmeocigliephaaGreatDoor.Big
end
section
namespace Go.Proofs.YthmeocigliephaaGreatDoor.Big
open Go.Proofs.YthmeocigliephaaGreatDoor.PSu Go.Proofs.YthmeocigliephaaGreatDoor.Plain
def apartL : Nat → List Nat → Int → Option (List Nat × Int)
  | 0, _, _ => none
  | k + 1, pre, z => if z = 0 then some (pre, 0) else if bl z.natAbs ≤ 2200 ∧ pre.length < 100000 then (if infB? (rndZ z 2) = true then some ([], 5) else if Fin64 (rndZ z 2) then apartL k (pre ++ [rndZ z 2]) (z - flz (rndZ z 2)) else none) else none
def KeepT (W W' : World) : Prop := ∀ (k : Nat) (cs : Array Value) (t : TypeId), (t = 60 ∨ t = 83) → W.heap[k]? = some (Obj.cells cs t (0, 0)) → W'.heap[k]? = some (Obj.cells cs t (0, 0))
def NumAt (w : World) (base g : Nat) (z : Int) : Prop := ∃ v, w.heap[g]? = some (Obj.cells #[.bool (canN z (-1074)).1, v, .int .i64 (canN z (-1074)).2.2] 60 (0, 0)) ∧ Kd.R (Kd.int .u32) 83 w base (fun _ => True) v (canN z (-1074)).2.1
theorem NumAt.keep {w w' : World} {base g : Nat} {z : Int} (h : NumAt w base g z) (k : KeepT w w') : NumAt w' base g z := by
  obtain ⟨v, h1, h2⟩ := h
  refine ⟨v, k _ _ _ (.inl rfl) h1, ?_⟩
  refine Kd.R_mono (Kd.R_move (Kd.R_bound h2) (fun j hj => ?_)) (fun _ _ => trivial)
  obtain ⟨_, _, _, q, hq, cells, hc⟩ := hj
  have : q = 83 := by simpa [Kd.int, Kd.scalar] using hq
  subst this
  rw [hc, k _ _ _ (.inr rfl) hc]
theorem NumAt.below {w w' : World} {base g : Nat} {z : Int} (h : NumAt w base g z) (k : Below w.heap.size w w') : NumAt w' base g z :=
  h.keep fun j cs t _ hj => blk_below hj k
theorem num_sign {z : Int} (h : bl z.natAbs ≤ 2200) : ∃ s : Int, dyad_Sign.f 1 (canN z (-1074)).1 (canN z (-1074)).2.1 (canN z (-1074)).2.2 = some s ∧ (s = 0 ↔ z = 0) := by
  refine ⟨_, sign_law (isN_can (by omega) (by omega) (by omega)), ?_⟩
  by_cases hz : z = 0
  · rw [if_pos (can_length.2 hz)]; exact ⟨fun _ => hz, fun _ => rfl⟩
  · rw [if_neg (fun h => hz (can_length.1 h))]
    refine ⟨fun h => ?_, fun h => absurd h hz⟩
    split at h <;> omega
theorem parts_tab : rtab .any (opsOf Tryz.f102 3) = sums_total.T5 := by kernel_rfl
section
variable (w : World) (g l : Nat) (PI : List Nat → World → Prop) (PX : World → Prop)
  (hS : ∀ pre W W1, PI pre W → Below W.heap.size W W1 → PI pre W1)
  (hG : ∀ pre W i v, PI pre W → PI pre (W.setCell ⟨g, i, none⟩ v))
  (hB : ∀ pre W, PI pre W → Below w.heap.size w W)
  (hY : ∀ pre W f, PI pre W → pre.length < 100000 → YieldAt Fence.wide 3 Tryz.prog l #[.float .f64 f] W fun e W' =>
    (infB? f = false ∧ e = .returned (.bool true) ∧ PI (pre ++ [f]) W' ∧ KeepT W W') ∨ (infB? f = true ∧ e = .returned (.bool false) ∧ PX W'))
include hS hG hB hY
theorem parts_run (k : Nat) (z : Int) (L : List Nat) (q : Int) (W : World) (hg : w.heap.size ≤ g) (h0 : PI [] W) (hz : NumAt W w.heap.size g z) (hL : Laid w) (ha : apartL k [] z = some (L, q)) :
    Calls Tryz.prog 102 #[.func (.yield l) #[] #[], .pointer (some ⟨g, 0, none⟩)] W fun e W' => (∃ v, e = .returned v) ∧ ((q = 0 ∧ PI L W') ∨ (q = 5 ∧ PX W')) := by
  have hu60 := Tryz.underlying60
  have HA := asd ha
  have HZ := asd hz
  have HI := asd h0
  have HL := asd hL
  have GE := asd hg
  have S_ := asd hS
  have G_ := asd hG
  have B_ := asd hB
  have Y_ := asd hY
  clear hS hG hB hY ha hz h0 hL hg
  go_enter Tryz.func102, Tryz.ntmps102
  go_wp2
  go_loopg [] k (fun kq w' => ∃ (pre : List Nat) (z : Int), Aside0 (apartL kq pre z = some (L, q)) ∧ Aside0 (kq ≤ k) ∧ Aside0 (PI pre w') ∧ Aside0 (NumAt w' w.heap.size g z))
  case atStart => exact ⟨[], z, HA, ⟨Nat.le_refl _⟩, HI, HZ⟩
  case round =>
    clear HA HZ HI
    obtain ⟨pre, z, HA, HK, HI, HZ⟩ := hrel
    have HB := asd (B_.out _ _ HI.out)
    cases gk with
    | zero => exact absurd HA.out (by simp [apartL])
    | succ k1 =>
      have H := HA.out
      clear HA
      rw [apartL] at H
      obtain ⟨v, hb, hr⟩ := HZ.out
      obtain ⟨A, c, rfl⟩ := Kd.R_slice hr
      by_cases hz : z = 0
      · rw [if_pos hz] at H
        obtain ⟨rfl, rfl⟩ := Prod.mk.inj (Option.some.inj H)
        obtain ⟨s, hs, hs0⟩ := num_sign (z := z) (by rw [hz]; decide)
        have hsb : (s != 0) = false := bne_eq_false_iff_eq.mpr (hs0.2 hz)
        obtain ⟨⟨n, m, e⟩, hc⟩ : ∃ p, canN z (-1074) = p := ⟨_, rfl⟩
        rw [hc] at hs hb hr
        simp only at hb
        have SG := asd hs
        have HR := asd hr
        have BK := asd hb
        have z0 := (blk_cell BK.out 0).trans rfl
        have z1 := (blk_cell BK.out 1).trans rfl
        have z2 := (blk_cell BK.out 2).trans rfl
        clear hs hs0 hr hb hc H hz HZ
        go_wp2_with (first
          | (go_at_call 51; refine (dyad_Sign.calls 1 n A c m e s _ (Kd.R_reads' HR.out).2.2 (Kd.R_reads' HR.out).2.1 SG.out).mono ?_; rintro e1 w1 ⟨rfl, d⟩; have HI1 := asd (S_.out _ _ _ HI.out d); clear d))
        go_end0
        exact ⟨⟨_, rfl⟩, HI1.out⟩
      · rw [if_neg hz] at H
        by_cases hng : ¬ (bl z.natAbs ≤ 2200 ∧ pre.length < 100000)
        · rw [if_neg hng] at H; cases H
        have hgd := Classical.not_not.1 hng
        clear hng
        rw [if_pos hgd] at H
        obtain ⟨s, hs, hs0⟩ := num_sign (z := z) hgd.1
        have hsb : (s != 0) = true := bne_iff_ne.mpr (fun h => hz (hs0.1 h))
        have hrd := round_can (z := z) (mode := 2) (by omega) (by omega)
        obtain ⟨f, hf⟩ : ∃ f, rndZ z 2 = f := ⟨_, rfl⟩
        rw [hf] at H hrd
        have HP := asd hgd.2
        have HH := asd H
        have HZ2 := HZ
        obtain ⟨⟨n, m, e⟩, hc⟩ : ∃ p, canN z (-1074) = p := ⟨_, rfl⟩
        have HC := asd hc
        have HBZ := asd hgd.1
        rw [hc] at hs hb hr hrd
        simp only at hb hrd
        have SG := asd hs
        have RD := asd hrd
        have HR := asd hr
        have BK := asd hb
        have z0 := (blk_cell BK.out 0).trans rfl
        have z1 := (blk_cell BK.out 1).trans rfl
        have z2 := (blk_cell BK.out 2).trans rfl
        clear hs hs0 hr hb hc H hz hf hrd hgd HZ
        go_upto_region 2 with (first
          | (go_at_call 51; refine (dyad_Sign.calls 1 n A c m e s _ (Kd.R_reads' HR.out).2.2 (Kd.R_reads' HR.out).2.1 SG.out).mono ?_; rintro e1 w1 ⟨rfl, d⟩; have n1 := asd (S_.out _ _ _ HI.out d); have n2 := asd (HZ2.out.below d); have n3 := asd (Kd.R_below HR.out d); have n4 := asd (blk_below BK.out d); clear HI HZ2 HR BK HB z0 z1 z2; have HI := n1; have HZ2 := n2; have HR := n3; have BK := n4; clear n1 n2 n3 n4 d; have z0 := (blk_cell BK.out 0).trans rfl; have z1 := (blk_cell BK.out 1).trans rfl; have z2 := (blk_cell BK.out 2).trans rfl)
          | (go_at_call 47; refine (dyad_Round.calls n _ _ m e 2 f 0 _ (Kd.R_reads' HR.out).2.2 (Kd.R_reads' HR.out).2.1 RD.out).mono ?_; rintro e2 w2 ⟨rfl, d⟩; have n1 := asd (S_.out _ _ _ HI.out d); have n2 := asd (HZ2.out.below d); have n3 := asd (Kd.R_below HR.out d); have n4 := asd (blk_below BK.out d); clear HI HZ2 HR BK z0 z1 z2; have HI := n1; have HZ2 := n2; have HR := n3; have BK := n4; clear n1 n2 n3 n4 d))
        go_cut [16] (fun v16 wc => ∃ b : Bool, v16 = .bool b ∧ Aside0 (infB? f = b) ∧ Aside0 ((b = false ∧ PI (pre ++ [f]) wc ∧ NumAt wc w.heap.size g z) ∨ (b = true ∧ PX wc)))
        case first =>
          obtain ⟨fn, tmps, assign, body, hy, hR⟩ := Y_.out pre _ f HI.out HP.out
          refine (wpIn_wide (n := 4)).1 ?_
          gi_wp2
          refine hR.mono ?_
          rintro e3 w3 (⟨i1, rfl, i2, i3⟩ | ⟨i1, rfl, i2⟩)
          · gi_wp2
            go_meet
            case rel => exact ⟨false, rfl, ⟨i1⟩, ⟨.inl ⟨rfl, i2, HZ2.out.keep i3⟩⟩⟩
          · gi_wp2
            go_meet
            case rel => exact ⟨true, rfl, ⟨i1⟩, ⟨.inr ⟨rfl, i2⟩⟩⟩
        case rest =>
          obtain ⟨b, rfl, HF, HQ⟩ := hcut
          clear HI HZ2 HR BK RD SG hsb
          cases b with
          | true =>
            have H := HH.out
            rw [if_pos HF.out] at H
            obtain ⟨rfl, rfl⟩ := Prod.mk.inj (Option.some.inj H)
            have HX : Aside0 (PX wc) := ⟨by rcases HQ.out with h | h; exact absurd h.1 (by decide); exact h.2⟩
            clear H HH HQ
            go_wp2
            refine bodyPost_ret (results_none rfl _ _ _) rfl ?_
            exact ⟨⟨_, rfl⟩, HX.out⟩
          | false =>
            have H := HH.out
            rw [if_neg (by rw [HF.out]; decide)] at H
            by_cases hng : ¬ Fin64 f
            · rw [if_neg hng] at H; cases H
            have hfin := Classical.not_not.1 hng
            rw [if_pos hfin] at H
            have HH2 := asd H
            have HQ2 := HQ.out.resolve_right (fun h => absurd h.1 (by decide))
            have HI := asd HQ2.2.1
            have HZ := asd HQ2.2.2
            have HB := asd (B_.out _ _ HI.out)
            have hnf := num_law hfin
            have hfb : bl (flz f).natAbs ≤ 2098 := bl_le.2 (flz_lt hfin)
            have hsu := dsub_law 0 (x := z) (y := flz f) (by have := HBZ.out; omega) (by omega)
            have hzz := HC.out
            rw [hzz] at hsu
            obtain ⟨⟨n2, m2, e2⟩, hc2⟩ : ∃ p, canN (flz f) (-1074) = p := ⟨_, rfl⟩
            rw [hc2] at hnf hsu
            obtain ⟨⟨n3, m3, e3⟩, hc3⟩ : ∃ p, canN (z - flz f) (-1074) = p := ⟨_, rfl⟩
            rw [hc3] at hsu
            simp only at hsu
            have NF := asd hnf
            have SU := asd hsu
            have HC3 := asd hc3
            obtain ⟨v, hb, hr⟩ := HZ.out
            rw [hzz] at hb hr
            simp only at hb hr
            obtain ⟨A, c, rfl⟩ := Kd.R_slice hr
            have HR := asd hr
            have BK := asd hb
            clear H HH HQ HQ2 hng hfin hnf hfb hsu hzz hc2 hc3 hb hr HZ HC HBZ HP HF
            try go_wp2
            have n0_ := asd (Kd.R_drew HR.out)
            have n1_ := asd (blk_drew BK.out)
            have n2_ := asd (below_drew1 HB.out)
            have n3_ : Aside0 (PI (pre ++ [f]) wc.drew) := ⟨S_.out _ _ _ HI.out (below_drew1 (Below.refl _ _))⟩
            clear HR BK HB HI
            have HR := n0_
            have BK := n1_
            have HB := n2_
            have HI := n3_
            clear n0_ n1_ n2_ n3_
            refine start_ (n := 8) (S := fun w' => w'.cell? ⟨g, 0, none⟩ = some (.bool n) ∧ w'.cell? ⟨g, 1, none⟩ = some (.slice A m.length c) ∧ w'.cell? ⟨g, 2, none⟩ = some (.int .i64 e)) (ds := [7]) #[false, false, false, false, false, false, false, false] (by kernel_rfl) rfl rfl ⟨(blk_cell BK.out 0).trans rfl, (blk_cell BK.out 1).trans rfl, (blk_cell BK.out 2).trans rfl⟩ (fun hHeld => ?_); refine with_tabW parts_tab sums_total.bits5 (fun HT_ HW_ => ?_)
            generalize wc.drew = w9 at HR BK HB HI hHeld ⊢
            refine pure_ (i := 1) (N := some 19) (v := ?_) (a' := ?_) #[false, true, false, false, false, false, false, false] rfl rfl (any_of HT_.out (by kernel_rfl)) (fun _ _ _ h => h) (Or.inl ⟨by rfl, ?_⟩) ?_ ?_
            rotate_left
            · intro w'
              go_simp
              with_reducible rfl
            rotate_left
            · simp only [Act.put, List.setIfInBounds_toArray, List.set_cons_zero, List.set_cons_succ, i64_w, i32_w]
              rfl
            refine take_ (i := 0) (N := some 18) (v := ?_) (a' := ?_) #[true, true, false, false, false, false, false, false] rfl rfl (take_ofW HT_.out HW_.out (by kernel_rfl)) (fun _ _ _ h => h) (Or.inl ⟨by rfl, ?_⟩) hHeld ?_ ?_
            rotate_left
            · rintro w' ⟨s0, s1, s2⟩
              go_simp
              with_reducible rfl
            rotate_left
            · simp only [Act.put, List.setIfInBounds_toArray, List.set_cons_zero, List.set_cons_succ, i64_w, i32_w]
              rfl
            refine one_ (i := 2) (N := some 20) #[true, true, true, false, false, false, false, false] rfl rfl (one_of HT_.out (by kernel_rfl)) (by decide) (fun K hK => ?_)
            refine goes_ Tryz.func46 (by kernel_rfl) rfl #[.float .f64 f] (by rfl) rfl rfl eqA ?_
            with_reducible refine (sums_num.calls f n2 m2 e2 _ NF.out (HL.out.step HB.out)).mono ?_
            rintro e4 w4 ⟨v2, rfl, ho, hb⟩
            refine ⟨_, rfl, ?_⟩
            have n0_ := asd (Kd.R_below HR.out hb)
            have n1_ := asd (blk_below BK.out hb)
            have n2_ := asd (below_step HB.out hb)
            have n3_ := asd (S_.out _ _ _ HI.out hb)
            have HR2 := asd ho
            clear HR BK HB HI hb ho
            have HR := n0_
            have BK := n1_
            have HB := n2_
            have HI := n3_
            clear n0_ n1_ n2_ n3_
            obtain ⟨A2, c2, rfl⟩ := Kd.R_slice HR2.out
            refine hK.out _ _ ⟨(blk_cell BK.out 0).trans rfl, (blk_cell BK.out 1).trans rfl, (blk_cell BK.out 2).trans rfl⟩ (fun hHeld => ?_)
            clear hK K
            refine norm_ (a' := ?_) ?_ ?_
            rotate_left
            · show Act.put _ (some 20) _ = _
              simp only [Act.put, List.setIfInBounds_toArray, List.set_cons_zero, List.set_cons_succ, i64_w, i32_w]
              rfl
            refine one_ (i := 3) (N := some 21) #[true, true, true, true, false, false, false, false] rfl rfl (one_of HT_.out (by kernel_rfl)) (by decide) (fun K hK => ?_)
            refine goes_ Tryz.func44 (by kernel_rfl) rfl #[.agg #[.bool n, .slice A m.length c, .int .i64 e], .agg #[.bool n2, .slice A2 m2.length c2, .int .i64 e2]] (by rfl) rfl rfl eqA ?_
            with_reducible refine (dyad_Sub.calls 3 n (fun k_ => some k_ = (.slice A m.length c : Value).ownBlock) _ _ m e n2 (fun k_ => some k_ = (.slice A2 m2.length c2 : Value).ownBlock) _ _ m2 e2 n3 m3 e3 0 _ (Kd.R_V (Kd.R_tight rfl HR.out)) (Kd.R_V (Kd.R_tight rfl HR2.out)) SU.out (HL.out.step HB.out)).mono ?_
            rintro e5 w5 ⟨v3, rfl, ho, hb⟩
            refine ⟨_, rfl, ?_⟩
            have n1_ := asd (blk_below BK.out hb)
            have n2_ := asd (below_step HB.out hb)
            have n3_ := asd (S_.out _ _ _ HI.out hb)
            have n4_ := asd (Kd.R_lower (Kd.R_mono (ok' := fun k_ => True) ho (fun _ hk_ => trivial)) (below_size HB.out))
            clear HR HR2 BK HB HI hb ho
            have HR := n4_
            have BK := n1_
            have HB := n2_
            have HI := n3_
            clear n4_ n1_ n2_ n3_
            obtain ⟨A3, c3, rfl⟩ := Kd.R_slice HR.out
            refine hK.out _ _ ⟨(blk_cell BK.out 0).trans rfl, (blk_cell BK.out 1).trans rfl, (blk_cell BK.out 2).trans rfl⟩ (fun hHeld => ?_)
            clear hK K
            refine norm_ (a' := ?_) ?_ ?_
            rotate_left
            · show Act.put _ (some 21) _ = _
              simp only [Act.put, List.setIfInBounds_toArray, List.set_cons_zero, List.set_cons_succ, i64_w, i32_w]
              rfl
            refine pure_ (i := 4) (N := some 17) (v := ?_) (a' := ?_) #[true, true, true, true, true, false, false, false] rfl rfl (any_of HT_.out (by kernel_rfl)) (fun _ _ _ h => h) (Or.inl ⟨by rfl, ?_⟩) ?_ ?_
            rotate_left
            · intro w'
              go_simp
              with_reducible rfl
            rotate_left
            · simp only [Act.put, List.setIfInBounds_toArray, List.set_cons_zero, List.set_cons_succ, i64_w, i32_w]
              rfl
            refine pure_ (i := 5) (N := some 22) (v := ?_) (a' := ?_) #[true, true, true, true, true, true, false, false] rfl rfl (any_of HT_.out (by kernel_rfl)) (fun _ _ _ h => h) (Or.inl ⟨by rfl, ?_⟩) ?_ ?_
            rotate_left
            · intro w'
              go_simp
              with_reducible rfl
            rotate_left
            · simp only [Act.put, List.setIfInBounds_toArray, List.set_cons_zero, List.set_cons_succ, i64_w, i32_w]
              rfl
            refine pure_ (i := 6) (N := some 23) (v := ?_) (a' := ?_) #[true, true, true, true, true, true, true, false] rfl rfl (any_of HT_.out (by kernel_rfl)) (fun _ _ _ h => h) (Or.inl ⟨by rfl, ?_⟩) ?_ ?_
            rotate_left
            · intro w'
              go_simp
              with_reducible rfl
            rotate_left
            · simp only [Act.put, List.setIfInBounds_toArray, List.set_cons_zero, List.set_cons_succ, i64_w, i32_w]
              rfl
            refine last_ (i := 7) (N := none) #[true, true, true, true, true, true, true, true] rfl rfl (one_of HT_.out (by kernel_rfl)) (by decide) (fun K hK => ?_)
            have z0 : w5.cell? ⟨g, 0, none⟩ = some (.bool n) := (blk_cell BK.out 0).trans rfl
            have f0 := blk_frozen BK.out 0
            have z1 : w5.cell? ⟨g, 1, none⟩ = some (.slice A m.length c) := (blk_cell BK.out 1).trans rfl
            have f1 := blk_frozen BK.out 1
            have z2 : w5.cell? ⟨g, 2, none⟩ = some (.int .i64 e) := (blk_cell BK.out 2).trans rfl
            have f2 := blk_frozen BK.out 2
            refine skip_ (w1 := ?_) (by rfl) rfl ?_ ?_
            rotate_left
            · go_simp
              rfl
            refine hK.out _ _ ?_
            clear hK K
            refine done_ (done_of HT_.out (by kernel_rfl)) ?_
            try go_wp2
            go_roundg k1
            case measure => have := HK.out; omega
            case rel =>
              refine ⟨pre ++ [f], z - flz f, HH2, ⟨by have := HK.out; omega⟩, ⟨G_.out _ _ _ _ (G_.out _ _ _ _ (G_.out _ _ _ _ HI.out))⟩, ⟨.slice A3 m3.length c3, ?_, ?_⟩⟩
              · rw [HC3.out]
                refine blk_put (cs := #[.bool n3, .slice A3 m3.length c3, .int .i64 e]) ?_ 2 _ rfl
                refine blk_put (cs := #[.bool n3, .slice A m.length c, .int .i64 e]) ?_ 1 _ rfl
                refine blk_put (cs := #[.bool n, .slice A m.length c, .int .i64 e]) ?_ 0 _ rfl
                exact BK.out
              · rw [HC3.out]
                exact Kd.R_mono (Kd.R_far (p := ⟨g, 2, none⟩) (Kd.R_far (p := ⟨g, 1, none⟩) (Kd.R_far (p := ⟨g, 0, none⟩) (Kd.R_types HR.out BK.out (by decide)) (fun _ hk => hk.2) (.bool n3)) (fun _ hk => hk.2) (.slice A3 m3.length c3)) (fun _ hk => hk.2) (.int .i64 e3)) (fun _ hk => trivial)
end
end Go.Proofs.YthmeocigliephaaGreatDoor.Big
end
section
namespace Go.Proofs.YthmeocigliephaaGreatDoor.Big
open Go.Proofs.YthmeocigliephaaGreatDoor.PSu Go.Proofs.YthmeocigliephaaGreatDoor.Plain
def roundQ (J : List Nat → World → Prop) (JX : World → Prop) (B : Nat) (pre : List Nat) (f : Nat) (W : World) : Exit → Act → World → Prop
  | .normal, _, W' => infB? f = false ∧ J (pre ++ [f]) W' ∧ KeepT W W' ∧ KeepsFrom B W W'
  | .ret, _, W' => infB? f = true ∧ JX W' ∧ KeepsFrom B W W'
  | _, _, _ => False
theorem keepT_put {W : World} {l : Nat} {o o' : Obj} (h : W.heap[l]? = some o) (hc : o.isCells = false) : KeepT W (W.putObj l o') := by
  intro k cs t ht hk
  by_cases hkl : k = l
  · subst hkl
    rw [h] at hk
    cases hk
    cases hc
  · rw [World.putObj_heap_other hkl]
    exact hk
section
variable {ps : Array Tmp} {assign body : Code} {Q : Exit → Act → World → Prop} {a : Act} {W0 : World} (w : World) (g : Nat) (J : List Nat → World → Prop) (JX : World → Prop)
theorem range_parts (hps : ps.size = 1) (hgw : w.heap.size ≤ g) (hgW : g < W0.heap.size) (hev : a.eval (.tmp 15) = .func (.func 102) #[] #[.pointer (some ⟨g, 0, none⟩)]) (hL : Laid w)
    (hJS : ∀ pre W W1, J pre W → Below W.heap.size W W1 → J pre W1) (hJG : ∀ pre W i v, J pre W → J pre (W.setCell ⟨g, i, none⟩ v)) (hJB : ∀ pre W, J pre W → Below w.heap.size w W)
    (hJP : ∀ pre W j o o', J pre W → W0.heap.size ≤ j → W.heap[j]? = some o → o.isCells = false → o'.isCells = false → J pre (W.putObj j o'))
    (hXP : ∀ W j o o', JX W → W0.heap.size ≤ j → W.heap[j]? = some o → o.isCells = false → o'.isCells = false → JX (W.putObj j o'))
    (hround : ∀ l pre f W, J pre W → pre.length < 100000 → assign.wpIn (Fence.wide.inRound l) 3 Tryz.prog (Exit.then (fun a₁ w₁ => w₁ = W ∧ ∀ W1, J pre W1 → body.wpIn (Fence.wide.inRound l) 3 Tryz.prog (roundQ J JX W0.heap.size pre f W1) a₁ W1) (fun _ _ _ => False))
      { tmps := (ps.zip #[Value.float .f64 f]).foldl (fun t (p, v) => t.setIfInBounds p v) a.tmps, defers := [] } W)
    (h0 : J [] W0) (z : Int) (hz : NumAt W0 w.heap.size g z) (k : Nat) (L : List Nat) (q : Int) (ha : apartL k [] z = some (L, q))
    (hdone : q = 0 → ∀ D W, W0.heap.size ≤ D → J L W → W.heap[D]? = some (.deferred (some [])) → Q .normal { a with defers := { target := .collected D, args := #[] } :: a.defers } W)
    (hstop : q = 5 → ∀ D W, W0.heap.size ≤ D → JX W → W.heap[D]? = some (.deferred (some [])) → Code.ret.wpIn Fence.wide 5 Tryz.prog Q { a with defers := { target := .collected D, args := #[] } :: a.defers } W) :
    (Code.rangeFunc (.tmp 15) ps assign body).wpIn Fence.wide 5 Tryz.prog Q a W0 := by
  refine wpIn_rangeFunc ?_
  intro fn hfn
  obtain ⟨rec, hrec⟩ : ∃ rec : LoopState → Option Code → Loop, rec = fun st pe => { state := st, pending := pe, fn, tmps := a.tmps, params := ps, assign, body, defers := W0.heap.size } := ⟨_, rfl⟩
  obtain ⟨W1, hW1⟩ : ∃ W1, (W0.alloc (.deferred (some []))).alloc (.loop (rec .ready none)) = W1 := ⟨_, rfl⟩
  have hL1 : W1.heap[W0.heap.size + 1]? = some (.loop (rec .ready none)) := by
    rw [← hW1]; have := World.alloc_heap_new (W0.alloc (.deferred (some []))) (.loop (rec .ready none)); rwa [World.size_alloc] at this
  have hK1 : W1.heap[W0.heap.size]? = some (.deferred (some [])) := by
    rw [← hW1]; exact (Below.heap_alloc _ _ _ (by simp)).trans (World.alloc_heap_new W0 _)
  have hb1 : Below W0.heap.size W0 W1 := by
    rw [← hW1]; exact ((Below.refl _ W0).alloc (Nat.le_refl _) _).alloc (by simp) _
  refine ⟨W0.heap.size + 1, [{ target := .collected W0.heap.size, args := #[] }], W1, { target := .fn (.func 102) #[.pointer (some ⟨g, 0, none⟩)], args := #[.func (.yield (W0.heap.size + 1)) #[] #[]] }, W1, 102,
    #[.func (.yield (W0.heap.size + 1)) #[] #[]] ++ #[.pointer (some ⟨g, 0, none⟩)], W1, ?_, ?_, fun _ _ => trivial, ?_, fun _ => by omega, ?_⟩
  · rw [← hW1, hrec]; exact run_enterLoop_outer _ _ _ _ _
  · simp only [resolve, rangeCall, hev]
    simp [go_sem]
  · have eg : ∀ args w, (callFunc 102 args).run Tryz.prog w = .ok (.enter 102 args) w := enters_of Tryz.func102 (by kernel_rfl) rfl
    simp [invoke, go_sem, eg]
  · refine callsIn_wide.2 ((parts_run w g (W0.heap.size + 1)
      (fun pre W => J pre W ∧ W.heap[W0.heap.size + 1]? = some (.loop (rec .ready none)) ∧ W.heap[W0.heap.size]? = some (.deferred (some [])))
      (fun W => JX W ∧ W.heap[W0.heap.size + 1]? = some (.loop (rec .done (some .ret))) ∧ W.heap[W0.heap.size]? = some (.deferred (some [])))
      (fun pre W W1 h k => ⟨hJS pre W W1 h.1 k, blk_below h.2.1 k, blk_below h.2.2 k⟩)
      (fun pre W i v h => ⟨hJG pre W i v h.1, (Below.heap_setCell W _ v _ (by show _ ≠ g; omega)).trans h.2.1, (Below.heap_setCell W _ v _ (by show _ ≠ g; omega)).trans h.2.2⟩)
      (fun pre W h => hJB pre W h.1) ?_ k z L q W1 hgw ⟨hJS _ _ _ h0 hb1, hL1, hK1⟩ (hz.below hb1) hL ha).mono ?_)
    · rintro pre W f ⟨hi, hl, hk⟩ hlen
      have hy := run_yield (P := Tryz.prog) (args := #[Value.float .f64 f]) hl (by rw [hrec]; exact hps.symm)
      rw [hrec] at hy
      refine ⟨fn, _, assign, body, hy, roundIn_of_wpIn hfn (wpIn_mono (hround _ pre f W hi hlen) ?_)⟩
      clear hy
      rintro e a1 w1 he
      cases e with
      | normal =>
        obtain ⟨rfl, hbody⟩ := he
        refine ⟨_, run_beginRound hl (by rw [hrec]), ?_⟩
        have hlt : W0.heap.size + 1 < w1.heap.size := (Array.getElem?_eq_some_iff.1 hl).1
        have hl2 : (w1.putObj (W0.heap.size + 1) (.loop { rec .ready none with state := .busy })).heap[W0.heap.size + 1]? = some (.loop { rec .ready none with state := .busy }) := World.putObj_heap_same hlt
        have hk2 : (w1.putObj (W0.heap.size + 1) (.loop { rec .ready none with state := .busy })).heap[W0.heap.size]? = some (.deferred (some [])) := (World.putObj_heap_other (by omega)).trans hk
        have hi2 := hJP pre w1 _ _ (.loop { rec .ready none with state := .busy }) hi (by omega) hl rfl rfl
        have kt1 : KeepT w1 (w1.putObj (W0.heap.size + 1) (.loop { rec .ready none with state := .busy })) := keepT_put hl rfl
        refine wpIn_mono (hbody _ hi2) ?_
        have fin : ∀ (jump : Option Code) (W3 : World), KeepsFrom W0.heap.size (w1.putObj (W0.heap.size + 1) (.loop { rec .ready none with state := .busy })) W3 →
            (Instr.endRound (W0.heap.size + 1) jump).run Tryz.prog W3 = .ok (.bool jump.isNone) (W3.putObj (W0.heap.size + 1) (.loop (rec (if jump.isNone then .ready else .done) jump))) ∧
            W3.heap[W0.heap.size + 1]? = some (.loop { rec .ready none with state := .busy }) ∧
            (W3.putObj (W0.heap.size + 1) (.loop (rec (if jump.isNone then .ready else .done) jump))).heap[W0.heap.size + 1]? = some (.loop (rec (if jump.isNone then .ready else .done) jump)) ∧
            (W3.putObj (W0.heap.size + 1) (.loop (rec (if jump.isNone then .ready else .done) jump))).heap[W0.heap.size]? = some (.deferred (some [])) := fun jump W3 hk3 => by
          have hl3 := hk3.same _ _ (by omega) hl2 rfl
          have := run_endRound (P := Tryz.prog) jump hl3
          rw [hrec] at this ⊢
          exact ⟨this, by rw [hrec] at hl3; exact hl3, World.putObj_heap_same (Array.getElem?_eq_some_iff.1 hl3).1, (World.putObj_heap_other (by omega)).trans (hk3.same _ _ (Nat.le_refl _) hk2 rfl)⟩
        rintro e3 a3 W3 hp
        cases e3 with
        | normal =>
          obtain ⟨hf, hi3, hk3, hf3⟩ := hp
          obtain ⟨hr, hl3, hl4, hk4⟩ := fin none W3 hf3
          exact ⟨_, _, hr, .inl ⟨hf, rfl, ⟨hJP _ _ _ _ _ hi3 (by omega) hl3 rfl rfl, hl4, hk4⟩, fun j cs t ht hj => keepT_put hl3 rfl j cs t ht (hk3 j cs t ht (kt1 j cs t ht hj))⟩⟩
        | ret =>
          obtain ⟨hf, hx, hf3⟩ := hp
          obtain ⟨hr, hl3, hl4, hk4⟩ := fin (some .ret) W3 hf3
          exact ⟨_, _, hr, .inr ⟨hf, rfl, hXP _ _ _ _ hx (by omega) hl3 rfl rfl, hl4, hk4⟩⟩
        | exit id => exact hp.elim
        | goto t => exact hp.elim
        | panic ch => exact hp.elim
        | outgrown => exact hp.elim
      | ret => exact he.elim
      | exit id => exact he.elim
      | goto t => exact he.elim
      | panic ch => exact he.elim
      | outgrown => exact he.elim
    · rintro e W2 ⟨⟨v, rfl⟩, (⟨hq, hi, hl, hk⟩ | ⟨hq, hi, hl, hk⟩)⟩
      · exact ⟨none, _, by have := run_endLoop (P := Tryz.prog) hl (by rw [hrec]; simp); rw [hrec] at this; exact this, hdone hq _ _ (Nat.le_refl _) (hJP _ _ _ _ _ hi (by omega) hl rfl rfl) ((World.putObj_heap_other (by omega)).trans hk)⟩
      · exact ⟨some .ret, _, by have := run_endLoop (P := Tryz.prog) hl (by rw [hrec]; simp); rw [hrec] at this; exact this, hstop hq _ _ (Nat.le_refl _) (hXP _ _ _ _ hi (by omega) hl rfl rfl) ((World.putObj_heap_other (by omega)).trans hk)⟩
end
end Go.Proofs.YthmeocigliephaaGreatDoor.Big
end
section
namespace Go.Proofs.YthmeocigliephaaGreatDoor.Big
open Go.Proofs.YthmeocigliephaaGreatDoor.PSu Go.Proofs.YthmeocigliephaaGreatDoor.Plain
theorem parts_make (n : Bool) (v : Value) (e : Int) (w : World) :
    Calls Tryz.prog 71 #[.agg #[.bool n, v, .int .i64 e]] w fun e' w' => e' = .returned (.func (.func 102) #[] #[.pointer (some ⟨w.heap.size, 0, none⟩)]) ∧ w' = w.alloc (Obj.cells #[.bool n, v, .int .i64 e] 60 (0, 0)) := by
  have hu60 := Tryz.underlying60
  go_enter Tryz.func71, Tryz.ntmps71
  go_wp2
  go_ret
  exact ⟨rfl, rfl⟩
structure ApJ (w : World) (b2 b3 b5 g : Nat) (pre : List Nat) (W : World) : Prop where
  c2 : W.heap[b2]? = some (Obj.cells #[.slice none 0 0] 22 (0, 0))
  c3 : W.heap[b3]? = some (Obj.cells #[.int .i64 0] 32 (0, 0))
  c5 : ∃ v, W.heap[b5]? = some (Obj.cells #[v] 22 (0, 0)) ∧ Kd.R Kd.float 25 W w.heap.size (fun k => k ≠ g) v pre
  hb : Below w.heap.size w W
  gz : g < W.heap.size
structure ApX (w : World) (b2 b3 : Nat) (W : World) : Prop where
  c2 : W.heap[b2]? = some (Obj.cells #[.slice none 0 0] 22 (0, 0))
  c3 : W.heap[b3]? = some (Obj.cells #[.int .i64 5] 32 (0, 0))
  hb : Below w.heap.size w W
section
variable {w W : World} {b2 b3 b5 g : Nat} {pre : List Nat}
theorem ApJ.below {W1 : World} (h : ApJ w b2 b3 b5 g pre W) (k : Below W.heap.size W W1) : ApJ w b2 b3 b5 g pre W1 := by
  obtain ⟨v, h1, h2⟩ := h.c5
  exact ⟨blk_below h.c2 k, blk_below h.c3 k, ⟨v, blk_below h1 k, Kd.R_below h2 k⟩, below_step h.hb k, Nat.lt_of_lt_of_le h.gz k.size⟩
theorem ApJ.far (h : ApJ w b2 b3 b5 g pre W) (n2 : b2 ≠ g) (n3 : b3 ≠ g) (n5 : b5 ≠ g) (hg : w.heap.size ≤ g) (i : Nat) (u : Value) : ApJ w b2 b3 b5 g pre (W.setCell ⟨g, i, none⟩ u) := by
  obtain ⟨v, h1, h2⟩ := h.c5
  exact ⟨(Below.heap_setCell W _ u _ n2).trans h.c2, (Below.heap_setCell W _ u _ n3).trans h.c3, ⟨v, (Below.heap_setCell W _ u _ n5).trans h1, Kd.R_far h2 (fun _ hk => hk) u⟩, below_set h.hb hg, by have := h.gz; simpa [World.setCell] using this⟩
theorem R_put {e base : Nat} {ok : Nat → Prop} {v : Value} {l : List Nat} {j : Nat} {o o' : Obj} (h : Kd.R Kd.float e W base ok v l) (hj : W.heap[j]? = some o) (ho : o.isCells = false) : Kd.R Kd.float e (W.putObj j o') base ok v l := by
  refine Kd.R_mono (Kd.R_move (Kd.R_bound h) (fun k hk => ?_)) (fun _ hk => hk.1)
  obtain ⟨_, _, _, q, _, cells, hc⟩ := hk
  refine World.putObj_heap_other (fun e => ?_)
  subst e
  rw [hj] at hc
  cases hc
  cases ho
theorem row_cells {e base : Nat} {ok : Nat → Prop} {v : Value} {l : List Nat} (h : Kd.R Kd.float e W base ok v l) (j : Nat) (hj : v.ownBlock = some j) : base ≤ j ∧ ∃ cs, W.heap[j]? = some (Obj.cells cs e (0, 0)) := by
  obtain ⟨_, h1, _, q, hq, cs, hc⟩ := (Kd.R_bound h).1 j hj
  have : q = e := by simpa [Kd.float, Kd.scalar] using hq
  subst this
  exact ⟨h1, cs, hc⟩
theorem row_ne {e base : Nat} {ok : Nat → Prop} {v : Value} {l : List Nat} (h : Kd.R Kd.float e W base ok v l) {j : Nat} {cs : Array Value} {t : TypeId} (hj : W.heap[j]? = some (Obj.cells cs t (0, 0))) (ht : t ≠ e) : some j ≠ v.ownBlock := by
  intro he
  obtain ⟨_, cs', hc⟩ := row_cells h j he.symm
  rw [hj] at hc
  cases hc
  exact ht rfl
theorem ApJ.append {w1 : World} {v v' : Value} {f : Nat} {z : Value} {t : TypeId} (c2 : W.heap[b2]? = some (Obj.cells #[.slice none 0 0] 22 (0, 0))) (c3 : W.heap[b3]? = some (Obj.cells #[.int .i64 0] 32 (0, 0)))
    (c5 : W.heap[b5]? = some (Obj.cells #[v] 22 (0, 0))) (r : Kd.R Kd.float 25 W w.heap.size (fun k => k ≠ g) v pre) (hb : Below w.heap.size w W) (gz : g < W.heap.size) (d25 : b2 ≠ b5) (d35 : b3 ≠ b5) (h5 : w.heap.size ≤ b5) (h5g : b5 ≠ g)
    (hown : w1.ownsRow w.heap.size 25 1 v' (pre.length + 1) (encs (Value.float .f64) pre ++ [.float .f64 f])) (hg : (W.alloc (Obj.cells #[z] t (0, 0))).grownBy w1 v.ownBlock) (hat : v'.ownBlock = v.ownBlock ∨ v'.ownBlock = some (W.alloc (Obj.cells #[z] t (0, 0))).heap.size) :
    w1.heap[b5]? = some (Obj.cells #[v] 22 (0, 0)) ∧ ApJ w b2 b3 b5 g (pre ++ [f]) (w1.setCell ⟨b5, 0, none⟩ v') ∧ KeepT W (w1.setCell ⟨b5, 0, none⟩ v') ∧ ∀ B, KeepsFrom B W (w1.setCell ⟨b5, 0, none⟩ v') := by
  have n2 := blk_grown (blk_alloc c2 _) hg (row_ne r c2 (by decide))
  have n3 := blk_grown (blk_alloc c3 _) hg (row_ne r c3 (by decide))
  have n5 := blk_grown (blk_alloc c5 _) hg (row_ne r c5 (by decide))
  have hsz : W.heap.size ≤ w1.heap.size := Nat.le_trans (by simp) hg.size
  have R1 : Kd.R Kd.float 25 w1 w.heap.size (fun k => k ≠ g) v' (pre ++ [f]) := by
    refine Kd.R_of_own (by simpa [encs] using hown) (fun k hk => ?_)
    rcases hat with e1 | e1
    · exact r.1 k (by rw [← e1]; exact hk)
    · rw [e1] at hk
      injection hk with hk
      simp at hk
      omega
  have R2 := Kd.R_mono (Kd.R_far (p := ⟨b5, 0, none⟩) (Kd.R_types R1 n5 (by decide)) (fun _ hk => hk.2) v') (fun _ hk => hk.1)
  have hb1 : Below w.heap.size w w1 := (below_alloc hb _).grown hg (by have := hb.size; simp; omega) (fun k e => (row_cells r k e).1)
  have kt : KeepT W w1 := fun j cs t ht hj => blk_grown (blk_alloc hj _) hg (row_ne r hj (by rcases ht with rfl | rfl <;> decide))
  refine ⟨n5, ⟨(Below.heap_setCell w1 _ _ _ d25).trans n2, (Below.heap_setCell w1 _ _ _ d35).trans n3, ⟨v', blk_put (cs := #[v]) n5 0 _ rfl, R2⟩, below_set hb1 h5, Nat.lt_of_lt_of_le gz (Nat.le_trans hsz (by simp [World.setCell]))⟩, ?_, fun B => ?_⟩
  · intro j cs t ht hj
    refine (Below.heap_setCell w1 _ _ _ ?_).trans (kt j cs t ht hj)
    show j ≠ b5
    intro e
    subst e
    rw [hj] at c5
    cases c5
    rcases ht with h | h <;> revert h <;> decide
  · refine (((KeepsOthers.alloc W _).trans (KeepsOthers.of_grownBy hg (fun j o e hj => ?_))).trans (KeepsOthers.setCell _ _ _)).from B
    obtain ⟨_, cs, hc⟩ := row_cells r j e
    rw [blk_alloc hc _] at hj
    cases hj
    rfl
theorem blk_putObj {k j : Nat} {cs : Array Value} {t : TypeId} {o o' : Obj} (h : W.heap[k]? = some (Obj.cells cs t (0, 0))) (hj : W.heap[j]? = some o) (ho : o.isCells = false) : (W.putObj j o').heap[k]? = some (Obj.cells cs t (0, 0)) := by
  refine (World.putObj_heap_other (fun e => ?_)).trans h
  subst e
  rw [hj] at h
  cases h
  cases ho
theorem below_putObj {j : Nat} (h : Below w.heap.size w W) (o' : Obj) (hj : w.heap.size ≤ j) : Below w.heap.size w (W.putObj j o') := h.grown (grownBy_putObj' W j o') h.size (fun k e => by cases e; omega)
theorem ApJ.put {j : Nat} {o o' : Obj} (h : ApJ w b2 b3 b5 g pre W) (hj : W.heap[j]? = some o) (ho : o.isCells = false) (hw : w.heap.size ≤ j) : ApJ w b2 b3 b5 g pre (W.putObj j o') := by
  obtain ⟨v, h1, h2⟩ := h.c5
  exact ⟨blk_putObj h.c2 hj ho, blk_putObj h.c3 hj ho, ⟨v, blk_putObj h1 hj ho, R_put h2 hj ho⟩, below_putObj h.hb o' hw, by have := h.gz; simpa [World.putObj] using this⟩
theorem ApX.put {j : Nat} {o o' : Obj} (h : ApX w b2 b3 W) (hj : W.heap[j]? = some o) (ho : o.isCells = false) (hw : w.heap.size ≤ j) : ApX w b2 b3 (W.putObj j o') :=
  ⟨blk_putObj h.c2 hj ho, blk_putObj h.c3 hj ho, below_putObj h.hb o' hw⟩
end
theorem apartL_five : ∀ {k : Nat} {pre : List Nat} {z : Int} {L : List Nat}, apartL k pre z = some (L, 5) → L = []
  | 0, _, _, _, h => by cases h
  | k + 1, pre, z, L, h => by
    rw [apartL] at h
    split at h
    · cases h
    · split at h
      · split at h
        · cases h; rfl
        · split at h
          · exact apartL_five h
          · cases h
      · cases h
attribute [local go_sem] Oper.semAt_some
theorem ap_info : (Tryz.prog.info? 25).map (fun i => (i.zero, i.size, i.bytes)) = some (some (.float .f64 0), 1, 8) := by kernel_rfl
theorem apart_ok (k kt : Nat) (A0 : Option Addr) (c0 : Nat) (l0 : List Nat) (w : World) (hr0 : Kd.C Kd.float w A0 l0.length l0) (hc0 : l0.length ≤ c0) (hn : l0.length < 4611686018427387904) (hL : Laid w) (h3 : faultL l0 = 0) (z : Int) (h4 : sums_total.f kt l0 = some (canN z (-1074))) (L : List Nat) (q : Int) (ha : apartL k [] z = some (L, q)) :
    Calls Tryz.prog 28 #[.slice A0 l0.length c0] w fun e w' => ∃ v, e = .returned (.tuple #[v, .int .i64 q]) ∧ Kd.R Kd.float 25 w' w.heap.size (fun _ => True) v L ∧ Below w.heap.size w w' := by
  have HL := asd hL
  have HR0 := asd hr0
  have HC0 := asd hc0
  have HN := asd hn
  have HB := asd (Below.refl w.heap.size w)
  have HF := asd h3
  have HA := asd ha
  have hu60 := Tryz.underlying60
  obtain ⟨⟨n, m, e⟩, hc⟩ : ∃ p, canN z (-1074) = p := ⟨_, rfl⟩
  rw [hc] at h4
  have HT := asd h4
  have HC := asd hc
  clear hr0 hc0 h3 h4 hL hn ha hc
  refine callsIn_wide.1 (callsIn_of_wp_marks (n := 5) Tryz.func28 rfl trivial (wpIn_wide.2 ?_))
  simp only [Tryz.ntmps28, List.size_toArray, List.length_cons, List.length_nil, Nat.reduceAdd, Nat.reduceSub, Array.replicate_succ, Array.replicate_zero, List.push_toArray, List.append_toArray, List.nil_append, List.cons_append]
  go_wp2_with (first
    | ((with_reducible refine gate_dst (N := 2) rfl ?_); refine box_event ?hg (N := 2) ?hd (cs := #[.slice none 0 0]) (t := 22) ?hr ?_; (case hd => rfl); (case hg => rfl); (case hr => first | (go_simp; done) | (go_simp; rfl)); intro b2 hg w1 hbox hb; have n1_ := asd (below_step HB.out hb); clear HB; have HB := n1_; clear n1_ hb; have K2 := asd hbox; clear hbox; have G2 := asd (by rw [hg]; exact Nat.le_refl _ : w.heap.size ≤ b2); clear hg)
    | ((with_reducible refine gate_dst (N := 3) rfl ?_); refine box_event ?hg (N := 3) ?hd (cs := #[.int .i64 0]) (t := 32) ?hr ?_; (case hd => rfl); (case hg => rfl); (case hr => first | (go_simp; done) | (go_simp; rfl)); intro b3 hg w2 hbox hb; have n1_ := asd (below_step HB.out hb); have n2_ := asd (blk_below K2.out hb); have N3 := asd (by rw [hg]; exact blk_lt K2.out : b2 < b3); clear HB K2; have HB := n1_; have K2 := n2_; clear n1_ n2_ hb; have K3 := asd hbox; clear hbox hg)
    | (go_at_call 50; refine (fault_one _ A0 c0 l0 0 _ (by exact blk_cell (blk_new _ _) 0) (Kd.C_below HR0.out (below_alloc HB.out _)) HC0.out HN.out HF.out).mono ?_; rintro e3 w3 ⟨rfl, d⟩; have n1_ := asd (below_step (below_alloc HB.out _) d); have n2_ := asd (blk_below (blk_alloc K2.out _) d); have n3_ := asd (blk_below (blk_alloc K3.out _) d); clear HB K2 K3 d; have HB := n1_; have K2 := n2_; have K3 := n3_; clear n1_ n2_ n3_)
    | ((with_reducible refine gate_dst (N := 5) rfl ?_); refine box_event ?hg (N := 5) ?hd (cs := #[.slice none 0 0]) (t := 22) ?hr ?_; (case hd => rfl); (case hg => rfl); (case hr => first | (go_simp; done) | (go_simp; rfl)); intro b5 hg w4 hbox hb; have n1_ := asd (below_step HB.out hb); have n2_ := asd (blk_below K2.out hb); have n3_ := asd (blk_below K3.out hb); have N5 := asd (by rw [hg]; exact blk_lt K3.out : b3 < b5); clear HB K2 K3; have HB := n1_; have K2 := n2_; have K3 := n3_; clear n1_ n2_ n3_ hb; have K5 := asd hbox; clear hbox hg)
    | (go_at_call 45; refine (sums_total.calls kt A0 c0 l0 n m e _ (Kd.C_below HR0.out HB.out) HC0.out HT.out (HL.out.step HB.out)).mono ?_; rintro e5 w5 ⟨v, rfl, r5, d⟩; have n1_ := asd (below_step HB.out d); have n2_ := asd (blk_below K2.out d); have n3_ := asd (blk_below K3.out d); have n5_ := asd (blk_below K5.out d); have R5 := asd (Kd.R_lower r5 (below_size HB.out)); clear HB K2 K3 K5 d r5; have HB := n1_; have K2 := n2_; have K3 := n3_; have K5 := n5_; clear n1_ n2_ n3_ n5_)
    | (go_at_call 71; refine (parts_make n v e _).mono ?_; rintro e6 w6 ⟨rfl, hw6⟩; have Kg := asd (by rw [hw6]; exact blk_new _ _ : w6.heap[w5.heap.size]? = some (Obj.cells #[.bool n, v, .int .i64 e] 60 (0, 0))); have d : Below w5.heap.size w5 w6 := (by rw [hw6]; exact below_alloc (Below.refl _ _) _); obtain ⟨g, hg⟩ : ∃ g, w5.heap.size = g := ⟨_, rfl⟩; have Ng := asd (Nat.lt_of_lt_of_eq (blk_lt K5.out) hg); have n1_ := asd (below_step HB.out d); have n2_ := asd (blk_below K2.out d); have n3_ := asd (blk_below K3.out d); have n5_ := asd (blk_below K5.out d); have n6_ := asd (Kd.R_below R5.out d); clear hw6 HB K2 K3 K5 R5 d; have HB := n1_; have K2 := n2_; have K3 := n3_; have K5 := n5_; have R5 := n6_; clear n1_ n2_ n3_ n5_ n6_; rw [hg] at Kg ⊢; clear hg))
  have hgw : w.heap.size ≤ g := by have := G2.out; have := N3.out; have := N5.out; have := Ng.out; omega
  have n2 : b2 ≠ g := by have := N3.out; have := N5.out; have := Ng.out; omega
  have n3 : b3 ≠ g := by have := N5.out; have := Ng.out; omega
  have n5 : b5 ≠ g := by have := Ng.out; omega
  have hsz : w.heap.size ≤ w6.heap.size := HB.out.size
  refine (wpIn_wide (n := 5)).1 (range_parts w g (ApJ w b2 b3 b5 g) (ApX w b2 b3) rfl hgw (blk_lt Kg.out) rfl HL.out (fun _ _ _ h k => h.below k) (fun _ _ _ _ h => h.far n2 n3 n5 hgw _ _) (fun _ _ h => h.hb)
    (fun _ _ _ _ _ h hj hk ho _ => h.put hk ho (by omega)) (fun _ _ _ _ h hj hk ho _ => h.put hk ho (by omega)) ?round ⟨K2.out, K3.out, ⟨_, K5.out, Kd.R_nil _ _ _ _ _⟩, HB.out, blk_lt Kg.out⟩ z ⟨v, by rw [HC.out]; exact Kg.out, by rw [HC.out]; exact R5.out⟩ k L q HA.out ?done ?stop)
  case round =>
    rintro l pre f W hI hp
    gi_wp2
    refine ⟨trivial, fun W1 hI1 => ?_⟩
    clear hI W
    obtain ⟨i0, hi, hz0, hz1, hz2⟩ := info_parts ap_info
    obtain ⟨v5, k5, r5⟩ := hI1.c5
    have Z2 := asd hI1.c2
    have Z3 := asd hI1.c3
    have Z5 := asd k5
    have O5 := asd (Kd.own_of_R r5)
    have R5_ := asd r5
    have HB1 := asd hI1.hb
    have GZ := asd hI1.gz
    have d23 : b2 ≠ b3 := by have := N3.out; omega
    have d32 : b3 ≠ b2 := by have := N3.out; omega
    have d25 := asd (show b2 ≠ b5 by have := N3.out; have := N5.out; omega)
    have d35 := asd (show b3 ≠ b5 by have := N3.out; have := N5.out; omega)
    have H2_ := asd (show w.heap.size ≤ b2 from G2.out)
    have H3_ := asd (show w.heap.size ≤ b3 by have := G2.out; have := N3.out; omega)
    have H5_ := asd (show w.heap.size ≤ b5 by have := G2.out; have := N3.out; have := N5.out; omega)
    clear k5 r5 hI1
    by_cases hf : infB? f = true
    · have IF := asd (by rw [inf_some, hf] : math_IsInf.f f 0 = some true)
      gi_wp2_with (refine ⟨trivial, ?_⟩; gi_at_call 43; refine (CallsIn.inRound l (callsIn_wide.2 (math_IsInf.calls f 0 true _ IF.out))).mono ?_; rintro e' w' ⟨rfl, ⟨nd, rfl⟩⟩; have n2_ := blk_drewN Z2.out nd; have n3_ := blk_drewN Z3.out nd; have hb_ := pw_below_drewN HB1.out nd; have kf_ : KeepsFrom w6.heap.size W1 (W1.drewN nd) := (⟨Nat.le_refl _, fun _ _ _ h _ => h⟩); generalize W1.drewN nd = W2 at n2_ n3_ hb_ kf_ ⊢; have Z2_ := asd n2_; have Z3_ := asd n3_; have HB_ := asd hb_; have KF_ := asd kf_; clear n2_ n3_ hb_ kf_ Z2 Z3 Z5 O5 R5_; have z2 := (blk_cell Z2_.out 0).trans rfl; have y2 := blk_frozen Z2_.out 0; have z3 := (blk_cell Z3_.out 0).trans rfl; have y3 := blk_frozen Z3_.out 0)
      exact ⟨hf, ⟨blk_far (blk_put (cs := #[.slice none 0 0]) Z2_.out 0 _ rfl) d23 _, blk_put (cs := #[.int .i64 0]) (blk_far Z3_.out d32 _) 0 _ rfl, below_set (below_set HB_.out H2_.out) H3_.out⟩, KF_.out.trans (((KeepsOthers.setCell _ _ _).trans (KeepsOthers.setCell _ _ _)).from _)⟩
    · have hf : infB? f = false := by simpa using hf
      have IF := asd (by rw [inf_some, hf] : math_IsInf.f f 0 = some false)
      gi_wp2_with (first
        | (refine ⟨trivial, ?_⟩; gi_at_call 43; refine (CallsIn.inRound l (callsIn_wide.2 (math_IsInf.calls f 0 false _ IF.out))).mono ?_; rintro e' w' ⟨rfl, ⟨nd, rfl⟩⟩; have n2_ := blk_drewN Z2.out nd; have n3_ := blk_drewN Z3.out nd; have n5_ := blk_drewN Z5.out nd; have o5_ := pw_own_drewN O5.out nd; have r5_ := Kd.R_drewN R5_.out nd; have hb_ := pw_below_drewN HB1.out nd; have kf_ : KeepsFrom w6.heap.size W1 (W1.drewN nd) := (⟨Nat.le_refl _, fun _ _ _ h _ => h⟩); have kt_ : KeepT W1 (W1.drewN nd) := (fun _ _ _ _ h => h); generalize W1.drewN nd = W2 at n2_ n3_ n5_ o5_ r5_ hb_ kf_ kt_ ⊢; have Z2_ := asd n2_; have Z3_ := asd n3_; have Z5_ := asd n5_; have O5_ := asd o5_; have R5__ := asd r5_; have HB_ := asd hb_; have KF_ := asd kf_; have KT_ := asd kt_; clear n2_ n3_ n5_ o5_ r5_ hb_ kf_ kt_ Z2 Z3 Z5 O5 R5_; have z5 := (blk_cell Z5_.out 0).trans rfl; have y5 := blk_frozen Z5_.out 0)
        | (gi_at_builtin; refine wpListIn_append_own_at _ rfl _ _ 22 rfl w.heap.size 25 i0 (.float .f64 0) 1 8 Tryz.underlying22 hi hz0 hz1 hz2 rfl (by decide) _ _ _ rfl (own_alloc O5_.out _) ⟨W2.heap.size, 0, none⟩ 1 1 [.float .f64 f] rfl rfl (cell_one_new _ _ _) (by simp [Value.oneCell']) (by unfold maxLen; omega) (by omega) (by have := HB_.out.size; simp; omega) ?_; intro v' w1 hown' hgrow _ hat; have hap := ApJ.append Z2_.out Z3_.out Z5_.out R5__.out HB_.out (Nat.lt_of_lt_of_le GZ.out KF_.out.size) d25.out d35.out H5_.out n5 hown' hgrow hat; have AP := asd hap.2; have z5 := (blk_cell hap.1 0).trans rfl; have y5 := blk_frozen hap.1 0; clear hap; obtain ⟨g', cap', rfl⟩ := ownsRow_succ hown'; clear hown' hgrow hat))
      exact ⟨hf, AP.out.1, fun j cs t ht hj => AP.out.2.1 j cs t ht (KT_.out j cs t ht hj), KF_.out.trans (AP.out.2.2 _)⟩
  case done =>
    intro hq D W hD hJ hK
    obtain ⟨v5, k5, r5⟩ := hJ.c5
    obtain ⟨A5, c5, rfl⟩ := Kd.R_slice r5
    have Z2 := asd hJ.c2
    have Z3 := asd hJ.c3
    have Z5 := asd k5
    have R5_ := asd r5
    have HB_ := asd hJ.hb
    have HK := asd hK
    have HQ := asd hq
    have H2_ := asd (show w.heap.size ≤ b2 from G2.out)
    have H3_ := asd (show w.heap.size ≤ b3 by have := G2.out; have := N3.out; omega)
    have d23 : b2 ≠ b3 := by have := N3.out; omega
    have d32 : b3 ≠ b2 := by have := N3.out; omega
    clear k5 r5 hJ hK hq
    have z2 := (blk_cell Z2.out 0).trans rfl
    have y2 := blk_frozen Z2.out 0
    have z3 := (blk_cell Z3.out 0).trans rfl
    have y3 := blk_frozen Z3.out 0
    have z5 := (blk_cell Z5.out 0).trans rfl
    have y5 := blk_frozen Z5.out 0
    go_wp2
    have hK2 : ((W.setCell ⟨b2, 0, none⟩ (.slice A5 L.length c5)).setCell ⟨b3, 0, none⟩ (.int .i64 0)).heap[D]? = some (.deferred (some [])) := ((KeepsOthers.setCell _ _ _).same D _ ((KeepsOthers.setCell _ _ _).same D _ HK.out rfl) rfl)
    have u2 := blk_putObj (blk_far (blk_put (cs := #[.slice none 0 0]) Z2.out 0 (.slice A5 L.length c5) rfl) d23 (.int .i64 0)) hK2 (o' := .deferred none) rfl
    have u3 := blk_putObj (blk_put (cs := #[.int .i64 0]) (blk_far Z3.out d32 (.slice A5 L.length c5)) 0 (.int .i64 0) rfl) hK2 (o' := .deferred none) rfl
    have z2 := (blk_cell u2 0).trans rfl
    have z3 := (blk_cell u3 0).trans rfl
    have v2 := blk_frozen u2 0
    have v3 := blk_frozen u3 0
    have hfin : Aside0 (Kd.R Kd.float 25 (((W.setCell ⟨b2, 0, none⟩ (.slice A5 L.length c5)).setCell ⟨b3, 0, none⟩ (.int .i64 0)).putObj D (.deferred none)) w.heap.size (fun _ => True) (.slice A5 L.length c5) L) := ⟨R_put (Kd.R_mono (Kd.R_far (p := ⟨b3, 0, none⟩) (Kd.R_types (Kd.R_far (p := ⟨b2, 0, none⟩) (Kd.R_types R5_.out Z2.out (by decide)) (fun _ hk => hk.2) (.slice A5 L.length c5)) (blk_far Z3.out d32 (.slice A5 L.length c5)) (by decide)) (fun _ hk => hk.2) (.int .i64 0)) (fun _ _ => trivial)) hK2 rfl⟩
    have hDw : w.heap.size ≤ D := Nat.le_trans hsz hD
    refine ⟨by simp, .inl ⟨_, _, rfl, run_takeDeferred hK2, ?_⟩⟩
    rw [HQ.out]
    refine ⟨.tuple #[.slice A5 L.length c5, .int .i64 0], ?_, _, rfl, hfin.out, below_putObj (below_set (below_set HB_.out H2_.out) H3_.out) _ hDw⟩
    simp [results, Tryz.results28, go_sem, z2, z3, v2, v3]
  case stop =>
    intro hq D W hD hX hK
    have Z2 := asd hX.c2
    have Z3 := asd hX.c3
    have HB_ := asd hX.hb
    have HK := asd hK
    have HQ := asd hq
    clear hX hK hq
    refine wpIn_wide.2 ?_
    go_wp2
    have u2 := blk_putObj Z2.out HK.out (o' := .deferred none) rfl
    have u3 := blk_putObj Z3.out HK.out (o' := .deferred none) rfl
    have z2 := (blk_cell u2 0).trans rfl
    have z3 := (blk_cell u3 0).trans rfl
    have v2 := blk_frozen u2 0
    have v3 := blk_frozen u3 0
    refine ⟨by simp, .inl ⟨_, _, rfl, run_takeDeferred HK.out, ?_⟩⟩
    rw [HQ.out]
    have hnil : [] = L := (apartL_five (k := k) (pre := []) (z := z) (by rw [← HQ.out]; exact HA.out)).symm
    refine ⟨.tuple #[.slice none 0 0, .int .i64 5], ?_, _, rfl, hnil ▸ Kd.R_nil _ _ _ _ _, below_putObj HB_.out _ (Nat.le_trans hsz hD)⟩
    simp [results, Tryz.results28, go_sem, z2, z3, v2, v3]
end Go.Proofs.YthmeocigliephaaGreatDoor.Big
end
section
namespace Go.Proofs.YthmeocigliephaaGreatDoor.Big
open Go.Proofs.YthmeocigliephaaGreatDoor.PSu Go.Proofs.YthmeocigliephaaGreatDoor.Plain Ieee
theorem compare_mul (x y : Int) (k : Nat) : compare (x * 2 ^ k) (y * 2 ^ k) = compare x y := by
  have hp : (0 : Int) < 2 ^ k := Int.pow_pos (by omega)
  rcases Int.lt_trichotomy x y with h | h | h
  · have h2 := Int.mul_lt_mul_of_pos_right h hp
    rw [Int.compare_eq_lt.2 h, Int.compare_eq_lt.2 h2]
  · subst h; rw [Int.compare_eq_eq.2 rfl, Int.compare_eq_eq.2 rfl]
  · have h2 := Int.mul_lt_mul_of_pos_right h hp
    rw [Int.compare_eq_gt.2 h, Int.compare_eq_gt.2 h2]
theorem signed_mul (s : Bool) (m u k : Nat) : signed s m u * 2 ^ k = (if s then -(m : Int) else m) * 2 ^ (u + k) := by
  unfold signed
  rw [Nat.shiftLeft_eq, Int.pow_add, ← Int.mul_assoc]
  cases s
  · simp [Int.natCast_mul, Int.natCast_pow]
  · simp [Int.natCast_mul, Int.natCast_pow, Int.neg_mul]
theorem order_fin {a b : Nat} (ha : Fin64 a) (hb : Fin64 b) : FloatKind.f64.format.order a b = some (compare (flz a) (flz b)) := by
  have ea := expoV_range ha
  have eb := expoV_range hb
  show double.order a b = _
  unfold Format.order
  rw [read_fin ha, read_fin hb]
  unfold Datum.order
  simp only
  congr 1
  rw [← compare_mul _ _ (min (expoV a) (expoV b) + 1074).toNat, signed_mul, signed_mul]
  unfold flz floV
  congr 3 <;> omega
theorem kind_cases {b : Nat} (h : b < 18446744073709551616) : Fin64 b ∨ b % 9223372036854775808 = 9218868437227405312 ∨ 9218868437227405312 < b % 9223372036854775808 := by
  unfold Fin64; omega
theorem read_inf {b : Nat} (h : b < 18446744073709551616) (h2 : b % 9223372036854775808 = 9218868437227405312) : double.read b = .infinity (sgn b) := by
  have : b = 9218868437227405312 ∨ b = 18442240474082181120 := by omega
  rcases this with rfl | rfl <;> rfl
theorem read_nan {b : Nat} (h2 : 9218868437227405312 < b % 9223372036854775808) : ∃ s f, double.read b = .nan s f := by
  unfold Format.read
  simp only [sw, bn, ir, lp]
  rw [if_neg (by omega), if_neg (by omega), if_neg (by omega)]
  exact ⟨_, _, rfl⟩
theorem nan_law {b : Nat} (h : b < 18446744073709551616) : nanB b = decide (9218868437227405312 < b % 9223372036854775808) := by
  unfold nanB
  rcases kind_cases h with hk | hk | hk
  · rw [nan_fin hk, decide_eq_false (by have := hk.2; omega)]
  · rw [decide_eq_false (by omega)]
    have : FloatKind.f64.format.order b b = some .eq := by
      show double.order b b = _
      unfold Format.order
      rw [read_inf h hk]
      cases sgn b <;> rfl
    rw [this]; rfl
  · rw [decide_eq_true hk]
    have : FloatKind.f64.format.order b b = none := by
      show double.order b b = _
      obtain ⟨s, f, hr⟩ := read_nan hk
      unfold Format.order
      rw [hr]; rfl
    rw [this]; rfl
theorem inf_law {b : Nat} (h : b < 18446744073709551616) : infB? b = (b % 9223372036854775808 == 9218868437227405312) := by
  have hu : infB? b = (FloatKind.f64.format.order (b % 9223372036854775808) 9218868437227405311 == some .gt) := by
    unfold infB? math_IsInf.f math_Abs.f
    rw [if_pos rfl, Option.bind_some, bits_abs b h]
    simp only [Int.toNat_natCast, Option.getD_some]
  rw [hu]
  rcases kind_cases h with hk | hk | hk
  · rw [order_max hk]
    have := hk.2
    symm; rw [beq_eq_false_iff_ne]; omega
  · rw [hk]; decide
  · have : FloatKind.f64.format.order (b % 9223372036854775808) 9218868437227405311 = none := by
      show double.order _ _ = _
      obtain ⟨s, f, hr⟩ := read_nan (b := b % 9223372036854775808) (by omega)
      unfold Format.order
      rw [hr]; rfl
    rw [this]
    have : (b % 9223372036854775808 == 9218868437227405312) = false := by rw [beq_eq_false_iff_ne]; omega
    rw [this]; rfl
theorem flz_zero {b : Nat} (h : Fin64 b) : flz b = 0 ↔ b % 9223372036854775808 = 0 := by
  have hp : (0 : Int) < 2 ^ (expoV b + 1074).toNat := Int.pow_pos (by omega)
  have h1 : flz b = 0 ↔ manti b = 0 := by
    have hf := @floV_natAbs b
    unfold flz
    constructor
    · intro h
      rcases Int.mul_eq_zero.1 h with h | h <;> omega
    · intro h
      have : floV b = 0 := by omega
      rw [this, Int.zero_mul]
  rw [h1]
  have hx := expo_le h
  have := h.1
  unfold manti frac expo at *
  split <;> omega
theorem signbit_law {b : Nat} (h : b < 18446744073709551616) : math_Signbit.f b = some (decide (9223372036854775808 ≤ b)) := by
  unfold math_Signbit.f
  congr 1
  rw [decide_eq_decide]
  unfold wrap64
  omega
end Go.Proofs.YthmeocigliephaaGreatDoor.Big
end
section
namespace Go.Proofs.YthmeocigliephaaGreatDoor.Big
open Go.Proofs.YthmeocigliephaaGreatDoor.PSu Go.Proofs.YthmeocigliephaaGreatDoor.Plain Ieee
def sumV (a b : Nat) : Nat :=
  if nanB a = true ∨ nanB b = true then 9221120237041090561
  else if infB? a = true then a else if infB? b = true then b
  else if flz a + flz b = 0 then (if sgn a = true ∧ sgn b = true then 9223372036854775808 else 0) else rndZ (flz a + flz b) 2
def opp (a b : Nat) : Prop := infB? a = true ∧ infB? b = true ∧ sgn a ≠ sgn b
theorem fin_kind {b : Nat} (h : b < 18446744073709551616) (h1 : nanB b = false) (h2 : infB? b = false) : Fin64 b := fin_of h h1 h2
theorem kind_fin {b : Nat} (h : Fin64 b) : nanB b = false ∧ infB? b = false := by
  rw [nan_law h.1, inf_law h.1]
  have := h.2
  exact ⟨decide_eq_false (by omega), by rw [beq_eq_false_iff_ne]; omega⟩
theorem add_inf {a b : Nat} (ha : a < 18446744073709551616) (hb : b < 18446744073709551616) (h1 : infB? a = true ∨ infB? b = true) (h2 : nanB a = false) (h3 : nanB b = false) (h4 : ¬ opp a b) :
    floatBits .add .f64 a b = some (if infB? a = true then a else b) := by
  have ri : ∀ {x : Nat}, x < 18446744073709551616 → infB? x = true → double.read x = .infinity (sgn x) ∧ double.write (.infinity (sgn x)) = x := by
    intro x hx h
    rw [inf_law hx] at h
    have h := beq_iff_eq.1 h
    refine ⟨read_inf hx h, ?_⟩
    have : x = 9218868437227405312 ∨ x = 18442240474082181120 := by omega
    rcases this with rfl | rfl <;> rfl
  show double.add a b = _
  unfold Format.add
  by_cases ia : infB? a = true
  · obtain ⟨r1, w1⟩ := ri ha ia
    rw [r1, if_pos ia]
    by_cases ib : infB? b = true
    · obtain ⟨r2, w2⟩ := ri hb ib
      have he : sgn a = sgn b := Classical.byContradiction fun h => h4 ⟨ia, ib, h⟩
      rw [r2]
      unfold Datum.sum
      simp only
      rw [if_pos he, Option.map_some, w1]
    · have fb := fin_kind hb h3 (by simpa using ib)
      rw [read_fin fb]
      unfold Datum.sum
      simp only
      rw [Option.map_some, w1]
  · have ib : infB? b = true := h1.resolve_left ia
    have fa := fin_kind ha h2 (by simpa using ia)
    obtain ⟨r2, w2⟩ := ri hb ib
    rw [r2, read_fin fa, if_neg ia]
    unfold Datum.sum
    simp only
    rw [Option.map_some, w2]
theorem oz_law {x : Nat} (hx : Fin64 x) : (FloatKind.f64.format.order x 0 == some .eq) = decide (flz x = 0) := by
  have h0 : Fin64 0 := by decide
  have z0 : flz 0 = 0 := (flz_zero h0).2 rfl
  rw [order_fin hx h0, z0]
  by_cases hz : flz x = 0
  · rw [hz]; rfl
  · rw [decide_eq_false hz, beq_eq_false_iff_ne]
    intro hc
    exact hz (Int.compare_eq_eq.1 (Option.some.inj hc))
theorem sg_law {x : Nat} (hz : flz x ≠ 0) : sgn x = decide (flz x < 0) := by
  have hp : (0 : Int) < 2 ^ (expoV x + 1074).toNat := Int.pow_pos (by omega)
  have hm : manti x ≠ 0 := fun hm => hz (by unfold flz floV; rw [hm]; simp)
  unfold flz floV
  cases hs : sgn x
  · rw [if_neg (by simp)]
    have := Int.mul_pos (show (0 : Int) < manti x by omega) hp
    rw [decide_eq_false (by omega)]
  · rw [if_pos rfl]
    have := Int.mul_pos (show (0 : Int) < manti x by omega) hp
    rw [Int.neg_mul, decide_eq_true (by omega)]
theorem rnd_lt (z : Int) (mode : Int) : rndZ z mode < 18446744073709551616 := by
  unfold rndZ
  split
  · omega
  · rename_i h
    have hn : z.natAbs ≠ 0 := by omega
    rw [roundV_eq]
    have := magV_le z.natAbs (-1074) (if decide (z < 0) = true then mode == 1 else mode == 3) (mode == 2) hn
    unfold infB at this
    unfold signV
    generalize magV z.natAbs (-1074) (if decide (z < 0) = true then mode == 1 else mode == 3) (mode == 2) = q at this ⊢
    split <;> omega
theorem sumV_lt {a b : Nat} (ha : a < 18446744073709551616) (hb : b < 18446744073709551616) : sumV a b < 18446744073709551616 := by
  unfold sumV
  split
  · omega
  · split
    · exact ha
    · split
      · exact hb
      · split
        · split <;> omega
        · exact rnd_lt _ _
theorem opp_cases {a b : Nat} (ha : a < 18446744073709551616) (hb : b < 18446744073709551616) (h : opp a b) : (a = 9218868437227405312 ∧ b = 18442240474082181120) ∨ (a = 18442240474082181120 ∧ b = 9218868437227405312) := by
  obtain ⟨h1, h2, h3⟩ := h
  rw [inf_law ha] at h1
  rw [inf_law hb] at h2
  have h1 := beq_iff_eq.1 h1
  have h2 := beq_iff_eq.1 h2
  have ca : a = 9218868437227405312 ∨ a = 18442240474082181120 := by omega
  have cb : b = 9218868437227405312 ∨ b = 18442240474082181120 := by omega
  rcases ca with rfl | rfl <;> rcases cb with rfl | rfl
  · exact absurd rfl h3
  · exact .inl ⟨rfl, rfl⟩
  · exact .inr ⟨rfl, rfl⟩
  · exact absurd rfl h3
def nanR (x y : Nat) (w : World) : Nat := Question.cut (.nanBits .f64 x y) (w.tape w.drawn (.nanBits .f64 x y))
theorem nanR_nan (x y : Nat) (w : World) : nanB (nanR x y w) = true ∧ nanR x y w < 18446744073709551616 := by
  have : nanR x y w < 18446744073709551616 ∧ 9218868437227405312 < nanR x y w % 9223372036854775808 := by
    unfold nanR Question.cut
    simp only
    generalize w.tape w.drawn (.nanBits .f64 x y) = t
    have hu : t % 2 = 0 ∨ t % 2 = 1 := by omega
    have hv : t / 2 % (2 ^ 52 - 1) < 2 ^ 52 - 1 := Nat.mod_lt _ (by decide)
    generalize t / 2 % (2 ^ 52 - 1) = v at hv ⊢
    rcases hu with hu | hu <;> rw [hu] <;> omega
  exact ⟨by rw [nan_law this.1, decide_eq_true this.2], this.1⟩
theorem run_nan {P : Program} (x y : Nat) (t : TypeId) (w : World) (h : floatBits .add .f64 x y = none) : (binOp .add t (.float .f64 x) (.float .f64 y)).run P w = .ok (.float .f64 (nanR x y w)) w.drew := by
  have h' : FloatKind.f64.format.add x y = none := h
  simp [binOp, Op.floatArith, h', Question.forced, nanR]
instance instDecOpp (a b : Nat) : Decidable (opp a b) := inferInstanceAs (Decidable (_ ∧ _ ∧ _))
def relN (r t : Nat) : Prop := r = t ∨ nanB r = true ∧ nanB t = true
def sumT (a b : Nat) : Nat := if opp a b then 9221120237041090560 else sumV a b
theorem sumT_lt {a b : Nat} (ha : a < 18446744073709551616) (hb : b < 18446744073709551616) : sumT a b < 18446744073709551616 := by
  unfold sumT
  split
  · omega
  · exact sumV_lt ha hb
theorem sumV_nan {a b : Nat} (h : nanB a = true ∨ nanB b = true) : sumV a b = 9221120237041090561 := by unfold sumV; rw [if_pos h]
theorem nan_not_inf {b : Nat} (hb : b < 18446744073709551616) (h : nanB b = true) : infB? b = false := by
  rw [nan_law hb] at h
  rw [inf_law hb, beq_eq_false_iff_ne]
  have := of_decide_eq_true h
  omega
theorem sumT_nan {a b : Nat} (ha : a < 18446744073709551616) (hb : b < 18446744073709551616) (h : nanB a = true ∨ nanB b = true) : nanB (sumT a b) = true := by
  unfold sumT
  rw [if_neg]
  · rw [sumV_nan h]; decide +kernel
  · rintro ⟨h1, h2, _⟩
    rcases h with h | h
    · rw [nan_not_inf ha h] at h1; cases h1
    · rw [nan_not_inf hb h] at h2; cases h2
theorem relN_sum {a b a' b' : Nat} (ha : a < 18446744073709551616) (hb : b < 18446744073709551616) (ha' : a' < 18446744073709551616) (hb' : b' < 18446744073709551616) (h1 : relN a a') (h2 : relN b b') : relN (sumT a b) (sumT a' b') := by
  rcases h1 with rfl | ⟨n1, n2⟩
  · rcases h2 with rfl | ⟨n1, n2⟩
    · exact .inl rfl
    · exact .inr ⟨sumT_nan ha hb (.inr n1), sumT_nan ha hb' (.inr n2)⟩
  · exact .inr ⟨sumT_nan ha hb (.inl n1), sumT_nan ha' hb' (.inl n2)⟩
theorem relN_eq {r t : Nat} (h : relN r t) (hn : nanB t = false) : r = t := by
  rcases h with h | ⟨_, h⟩
  · exact h
  · rw [h] at hn; cases hn
theorem relN_trans {a b c : Nat} (h1 : relN a b) (h2 : relN b c) : relN a c := by
  rcases h1 with rfl | ⟨n1, n2⟩
  · exact h2
  · rcases h2 with rfl | ⟨_, n4⟩
    · exact .inr ⟨n1, n2⟩
    · exact .inr ⟨n1, n4⟩
end Go.Proofs.YthmeocigliephaaGreatDoor.Big
end
