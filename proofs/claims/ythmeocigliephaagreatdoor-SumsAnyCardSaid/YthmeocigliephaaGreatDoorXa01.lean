/- Parts of the proof, behind one another; unused words are left out. -/
import Derived.Test.YthmeocigliephaaGreatDoorXa00
import Derived.ArgAppend
import Derived.Below
import Derived.BigQuiet
import Derived.Deep.AppendLies
import Derived.Deep.CutBlock
import Derived.Deep.DeepCutAuto
import Derived.Deep.Draws
import Derived.Deep.LoopGhost
import Derived.Deep.OwnRows
import Derived.Deep.QuietTactic
import Derived.Deep.RegionHeld3
import Derived.KernelRfl
import Derived.Laws.Bits64b
import Derived.Laws.BitsLemmas
import Derived.Laws.BytesArg
import Derived.Laws.FloatArith
import Derived.Laws.IdiomCopy
import Derived.Laws.MakeOwn
import Derived.Laws.OwnMore
import Derived.Laws.Rows
import Derived.Laws.Slices
import Derived.Lib.AppendStr
import Derived.Lib.ConvBytes
import Derived.Maps.AppendAt
import Derived.OrdersHeld
import Derived.OwnWalk
import Derived.RowKit
import Derived.RowKit3
import Derived.Shelf.Spec.TrailingZeros
import Derived.Tactics
import Derived.WalkKit
import Derived.WideLaws
import Derived.Test.YthmeocigliephaaGreatDoorProg
set_option linter.unusedVariables false
set_option linter.unusedSimpArgs false
set_option linter.unusedSectionVars false
set_option exponentiation.threshold 100000
set_option maxRecDepth 100000
set_option maxHeartbeats 8000000
open Go.RowKit Go.Proofs.YthmeocigliephaaGreatDoorW.PrintWords Go.Proofs.YthmeocigliephaaGreatDoorW.PrintLast Go.Proofs.YthmeocigliephaaGreatDoorW.PrintMore
section
namespace Go.Proofs.YthmeocigliephaaGreatDoor.PNa
attribute [local go_sem] f64bits_run f64from_run run_float_some max2_int min2_int max_two min_two max_three min_three max_four min_four
def big_nat_bitLen.f (l0 : List Int) : Option (Int) := if (l0.length : Int) = 0 then (some 0) else (if 0 ≤ (wrap64 ((l0.length : Int) - 1)) then (if (wrap64 ((l0.length : Int) - 1)) < (l0.length : Int) then ((bits_Len32.f (rd l0 (wrap64 ((l0.length : Int) - 1)))).bind fun t177 => (some (wrap64 ((wrap64 (32 * (wrap64 ((l0.length : Int) - 1)))) + t177)))) else (none)) else (none))
theorem big_nat_bitLen.calls (A0 : Option Addr) (c0 : Nat) (l0 : List Int) (r : Int) (w : World) (hr0 : Kd.C (Kd.int .u32) w A0 l0.length l0) (hc0 : l0.length ≤ c0) (h : big_nat_bitLen.f l0 = some r) :
  Calls Tryz.prog 141 #[.slice A0 l0.length c0] w fun e w' => e = .returned (.int .i64 r) ∧ Drawn0 w w' := by
 have HR0 := asd hr0
 have HC0 := asd hc0
 clear hr0 hc0
 have H := h
 clear h
 unfold big_nat_bitLen.f at H
 by_cases c2 : (l0.length : Int) = 0
 ·rw [if_pos c2] at H
  have c2b0 := beq_iff_eq.mpr c2
  have c2b1 := bne_eq_false_iff_eq.mpr c2
  clear c2
  obtain rfl := Option.some.inj H
  go_enter Tryz.func141, Tryz.ntmps141
  go_wp2
  go_ret
  exact ⟨eqB, dn0⟩
 ·rw [if_neg c2] at H
  have c2b0 := beq_eq_false_iff_ne.mpr c2
  have c2b1 := bne_iff_ne.mpr c2
  have c2b2 : ¬ (l0 = []) := fun h_ => c2 (by rw [h_]; rfl)
  obtain ⟨ji3, hji3⟩ : ∃ j_ : Int, (wrap64 ((l0.length : Int) - 1)) = j_ := ⟨_, rfl⟩
  first | rw [hji3] at H | simp only [hji3] at H ⊢
  have hji3w : (IntKind.i64.wrap ((l0.length : Int) - 1)) = ji3 := (i64_w _).trans hji3
  by_cases c4 : 0 ≤ (ji3)
  ·rw [if_pos c4] at H
   have c4b0 := decide_eq_true c4
   clear c4
   by_cases c5 : (ji3) < (l0.length : Int)
   ·rw [if_pos c5] at H
    have c5b0 := decide_eq_true c5
    clear c5
    replace H := Option.bind_eq_some_iff.mp H
    obtain ⟨t177, A60, H⟩ := H
    have A6 := asd A60
    clear A60
    obtain rfl := Option.some.inj H
    have p176 : 0 ≤ ((ji3) : Int) := odt
    have q176 : (ji3) < (l0.length : Int) := odt
    obtain ⟨ad176, e176, hx176_0⟩ := Kd.at_int HR0.out (ji3) p176 q176
    cases e176
    replace p176 := eq_true p176
    replace q176 := eq_true q176
    go_enter Tryz.func141, Tryz.ntmps141
    go_wp2_with (first | ((with_reducible refine gate_callee (f := 155) rfl ?_); refine goesL_ (some 16) rfl rfl Tryz.func155 (by kernel_rfl) rfl #[.int .u32 (rd l0 (ji3))] rfl (by (try simp only [List.map_toArray, List.map_cons, List.map_nil]); first | done | (simp only [hji3]; rfl) | rfl | (simp only [List.length_drop, List.length_take]; rfl)) ?_; (with_reducible refine (bits_Len32.calls (rd l0 (ji3)) t177 _ A6.out).mono ?_); rintro e w' ⟨rfl, ⟨nd, rfl⟩⟩; refine ⟨_, rfl, ?_⟩))
    go_ret
    exact ⟨by first | rfl | (simp; done) | (simp only [← hji3] <;> (first | rfl | simp)) | (simp [*]; done), dn0⟩
   ·rw [if_neg c5] at H
    exact absurd H (by simp)
  ·rw [if_neg c4] at H
   exact absurd H (by simp)
def big_small.f (k : Nat) (a0 : Int) : Option (List Int) := (big_nat_trim.f k (([(a0) % 4294967296, (a0 / 4294967296) % 4294967296] : List Int))).bind fun t181 => (some t181)
theorem big_small.calls (k : Nat) (a0 : Int) (r : List Int) (w : World) (h : big_small.f k a0 = some r) :
  Calls Tryz.prog 138 #[.int .u64 a0] w fun e w' => ∃ v0_ : Value, e = .returned (v0_) ∧ Kd.V (Kd.int .u32) 83 w' w.heap.size (fun k_ => (w.heap.size ≤ k_)) v0_ r ∧ Below w.heap.size w w' := by
 have HB := asd (Below.refl w.heap.size w)
 have H := h
 clear h
 unfold big_small.f at H
 obtain ⟨y178, hy178⟩ : ∃ y_ : List Int, y_ = (([(a0) % 4294967296, (a0 / 4294967296) % 4294967296] : List Int)) := ⟨_, rfl⟩
 try rw [Option.bind_some] at H
 try rw [← hy178] at H
 have Ny178 := asd hy178
 clear hy178
 replace H := Option.bind_eq_some_iff.mp H
 obtain ⟨t181, A20, H⟩ := H
 have A2 := asd A20
 clear A20
 obtain rfl := Option.some.inj H
 go_enter Tryz.func138, Tryz.ntmps138
 go_wp2_with (first | ((with_reducible refine gate_dst (N := 8) rfl ?_); refine Kd.R_lit (Kd.int .u32) _ 83 ?hg (N := 8) ?hd (xs := ([(a0) % 4294967296, (a0 / 4294967296) % 4294967296] : List Int)) (inner := [.int .u32 ((a0) % 4294967296), .int .u32 ((a0 / 4294967296) % 4294967296)]) (ok := fun _ => True) (okp := fun _ => True) ?hr ?hp (fun _ hk => hk) trivial (Below.refl _ _) (Nat.le_refl _) (by simp) ?_; (case hd => rfl); (case hg => rfl); (case hr => first | (go_simp; done) | (go_simp; rfl)); (case hp => exact (Reps.one (show Kd.M (Kd.int .u32) _ _ _ ((a0) % 4294967296) [.int .u32 ((a0) % 4294967296)] from rfl) (Reps.one (show Kd.M (Kd.int .u32) _ _ _ ((a0 / 4294967296) % 4294967296) [.int .u32 ((a0 / 4294967296) % 4294967296)] from rfl) (Reps.none _ _)))); intro v179 w3 ho4 hb hg_ hnew_; clear hg_ hnew_; (first | rw [← Ny178.out] at ho4 | (simp only [Int.reduceToNat] at ho4; rw [← Ny178.out] at ho4)); have n0_ := asd (Kd.R_lower (Kd.R_newM (M := fun k_ => (w.heap.size ≤ k_)) ho4 (below_size hbw) (fun k_ h_ => h_)) (below_size hbw)); have n1_ := asd (below_step hbw hb); clear HB; have HO180 := n0_; have HB := n1_; clear n0_ n1_; clear hb ho4; obtain ⟨Ao5, co5, eo5⟩ := Kd.R_slice HO180.out; subst eo5) | ((with_reducible refine gate_callee (f := 140) rfl ?_); refine goesL_ (some 9) rfl rfl Tryz.func140 (by kernel_rfl) rfl #[.slice Ao5 y178.length co5] rfl eqA ?_; (with_reducible refine (big_nat_trim.calls k (fun k_ => some k_ = (.slice Ao5 y178.length co5 : Value).ownBlock) _ _ y178 t181 _ ?side1 A2.out).mono ?_); (case side1 => exact Kd.R_V (Kd.R_tight rfl (HO180.out))); rintro e w6 ⟨v182, rfl, ho0, hb⟩; refine ⟨_, rfl, ?_⟩; have n0_ := asd (Kd.R_below (rUp HO180.out) hb); have n1_ := asd (Kd.V_lower (Kd.V_mono (ok' := fun k_ => (w.heap.size ≤ k_)) ho0 (fun k_ hk_ => Or.elim hk_ (fun hs_ => ((HO180.out).1 k_ hs_.symm).1) (fun hn_ => (Nat.le_trans (below_size hbw) hn_)))) (below_size hbw)); have n2_ := asd (below_step hbw hb); clear HO180; clear HB; have HO180 := n0_; have HO183 := n1_; have HB := n2_; clear n0_ n1_ n2_; (try clear hb); (try clear ho0)))
 go_ret
 exact ⟨_, eqC, by (with_reducible repeat (first | apply Kd.V_alloc | apply Kd.V_drewN | apply Kd.V_drew)); exact HO183.out, hbw⟩
def dyad_Valid.f (a0_0 : Bool) (l0_1 : List Int) (a0_2 : Int) : Option (Bool) := if (l0_1.length : Int) = 0 then (if a0_2 = 0 then (some (!a0_0)) else (some false)) else (if (l0_1.length : Int) ≤ 2048 then (if 0 ≤ (wrap64 ((l0_1.length : Int) - 1)) then (if (wrap64 ((l0_1.length : Int) - 1)) < (l0_1.length : Int) then (if (rd l0_1 (wrap64 ((l0_1.length : Int) - 1))) = 0 then (some false) else (if 0 < (l0_1.length : Int) then (if (Go.bits .and .u32 (rd l0_1 0) 1) = 1 then (if a0_2 ≥ (-65536) then (some (decide (a0_2 ≤ 65536))) else (some false)) else (some false)) else (none))) else (none)) else (none)) else (some false))
theorem dyad_Valid.calls (a0_0 : Bool) (A0_1 : Option Addr) (c0_1 : Nat) (l0_1 : List Int) (a0_2 : Int) (r : Bool) (w : World) (hr0_1 : Kd.C (Kd.int .u32) w A0_1 l0_1.length l0_1) (hc0_1 : l0_1.length ≤ c0_1) (h : dyad_Valid.f a0_0 l0_1 a0_2 = some r) :
  Calls Tryz.prog 91 #[.agg #[.bool a0_0, .slice A0_1 l0_1.length c0_1, .int .i64 a0_2]] w fun e w' => e = .returned (.bool r) ∧ Below w.heap.size w w' := by
 have hu60 := Tryz.underlying60
 have HR0_1 := asd hr0_1
 have HC0_1 := asd hc0_1
 clear hr0_1 hc0_1
 have HB := asd (Below.refl w.heap.size w)
 have H := h
 clear h
 unfold dyad_Valid.f at H
 by_cases c2 : (l0_1.length : Int) = 0
 ·rw [if_pos c2] at H
  have c2b0 := beq_iff_eq.mpr c2
  have c2b1 := bne_eq_false_iff_eq.mpr c2
  clear c2
  by_cases c3 : a0_2 = 0
  ·rw [if_pos c3] at H
   have c3b0 := beq_iff_eq.mpr c3
   have c3b1 := bne_eq_false_iff_eq.mpr c3
   clear c3
   obtain rfl := Option.some.inj H
   go_enter Tryz.func91, Tryz.ntmps91
   go_wp2_with (first | ((with_reducible refine gate_dst (N := 1) rfl ?_); refine box_ev (w := w) ?hg (N := 1) ?hd hbw (cs := #[.bool a0_0, .slice A0_1 l0_1.length c0_1, .int .i64 a0_2]) (t := 60) ?hr ?_; (case hd => rfl); (case hg => rfl); (case hr => first | (go_simp; done) | (go_simp; rfl)); clear HB; intro gb184 w4 HB BK184 GW184; have GE184 := GW184; obtain ⟨hcz5_0, hcz5_1, hcz5_2, hfz5_0, hfz5_1, hfz5_2⟩ := cz3 BK184.out))
   go_ret
   exact ⟨eqC, hbs⟩
  ·rw [if_neg c3] at H
   have c3b0 := beq_eq_false_iff_ne.mpr c3
   have c3b1 := bne_iff_ne.mpr c3
   obtain rfl := Option.some.inj H
   go_enter Tryz.func91, Tryz.ntmps91
   go_wp2_with (first | ((with_reducible refine gate_dst (N := 1) rfl ?_); refine box_ev (w := w) ?hg (N := 1) ?hd hbw (cs := #[.bool a0_0, .slice A0_1 l0_1.length c0_1, .int .i64 a0_2]) (t := 60) ?hr ?_; (case hd => rfl); (case hg => rfl); (case hr => first | (go_simp; done) | (go_simp; rfl)); clear HB; intro gb184 w6 HB BK184 GW184; have GE184 := GW184; obtain ⟨hcz7_0, hcz7_1, hcz7_2, hfz7_0, hfz7_1, hfz7_2⟩ := cz3 BK184.out))
   go_ret
   exact ⟨eqC, hbs⟩
 ·rw [if_neg c2] at H
  have c2b0 := beq_eq_false_iff_ne.mpr c2
  have c2b1 := bne_iff_ne.mpr c2
  have c2b2 : ¬ (l0_1 = []) := fun h_ => c2 (by rw [h_]; rfl)
  by_cases c8 : (l0_1.length : Int) ≤ 2048
  ·rw [if_pos c8] at H
   have c8b0 := decide_eq_true c8
   have c8b1 : decide (l0_1.length ≤ 2048) = true := decide_eq_true (by omega)
   clear c8
   obtain ⟨ji9, hji9⟩ : ∃ j_ : Int, (wrap64 ((l0_1.length : Int) - 1)) = j_ := ⟨_, rfl⟩
   first | rw [hji9] at H | simp only [hji9] at H ⊢
   have hji9w : (IntKind.i64.wrap ((l0_1.length : Int) - 1)) = ji9 := (i64_w _).trans hji9
   by_cases c10 : 0 ≤ (ji9)
   ·rw [if_pos c10] at H
    have c10b0 := decide_eq_true c10
    clear c10
    by_cases c11 : (ji9) < (l0_1.length : Int)
    ·rw [if_pos c11] at H
     have c11b0 := decide_eq_true c11
     clear c11
     by_cases c12 : (rd l0_1 (ji9)) = 0
     ·rw [if_pos c12] at H
      have c12b0 := beq_iff_eq.mpr c12
      have c12b1 := bne_eq_false_iff_eq.mpr c12
      clear c12
      obtain rfl := Option.some.inj H
      go_enter Tryz.func91, Tryz.ntmps91
      go_wp2_with (first | ((with_reducible refine gate_dst (N := 1) rfl ?_); refine box_ev (w := w) ?hg (N := 1) ?hd hbw (cs := #[.bool a0_0, .slice A0_1 l0_1.length c0_1, .int .i64 a0_2]) (t := 60) ?hr ?_; (case hd => rfl); (case hg => rfl); (case hr => first | (go_simp; done) | (go_simp; rfl)); clear HB; intro gb184 w13 HB BK184 GW184; have GE184 := GW184; obtain ⟨hcz14_0, hcz14_1, hcz14_2, hfz14_0, hfz14_1, hfz14_2⟩ := cz3 BK184.out; have p185 : 0 ≤ ((ji9) : Int) := odt; have q185 : (ji9) < (l0_1.length : Int) := odt; obtain ⟨ad185, e185, hx185_0⟩ := Kd.at_int HR0_1.out (ji9) p185 q185; cases e185; replace hx185_0 := (HB.out.cell (World.block_lt_of_cell? w _ hx185_0)).trans hx185_0; replace p185 := eq_true p185; replace q185 := eq_true q185))
      go_ret
      exact ⟨by first | rfl | (simp [errW_none, errW_some] <;> rfl) | (simp only [← hji9]; first | rfl | (simp [errW_none, errW_some] <;> rfl)) | (simp [*, errW_none, errW_some] <;> rfl), hbs⟩
     ·rw [if_neg c12] at H
      have c12b0 := beq_eq_false_iff_ne.mpr c12
      have c12b1 := bne_iff_ne.mpr c12
      by_cases c15 : 0 < (l0_1.length : Int)
      ·rw [if_pos c15] at H
       have c15b0 := decide_eq_true c15
       have c15b1 : decide (0 < l0_1.length) = true := decide_eq_true (by omega)
       clear c15
       by_cases c16 : (Go.bits .and .u32 (rd l0_1 0) 1) = 1
       ·rw [if_pos c16] at H
        have c16b0 := beq_iff_eq.mpr c16
        have c16b1 := bne_eq_false_iff_eq.mpr c16
        clear c16
        by_cases c17 : a0_2 ≥ (-65536)
        ·rw [if_pos c17] at H
         have c17b0 := decide_eq_true c17
         clear c17
         obtain rfl := Option.some.inj H
         go_enter Tryz.func91, Tryz.ntmps91
         go_wp2_with (first | ((with_reducible refine gate_dst (N := 1) rfl ?_); refine box_ev (w := w) ?hg (N := 1) ?hd hbw (cs := #[.bool a0_0, .slice A0_1 l0_1.length c0_1, .int .i64 a0_2]) (t := 60) ?hr ?_; (case hd => rfl); (case hg => rfl); (case hr => first | (go_simp; done) | (go_simp; rfl)); clear HB; intro gb184 w18 HB BK184 GW184; have GE184 := GW184; obtain ⟨hcz19_0, hcz19_1, hcz19_2, hfz19_0, hfz19_1, hfz19_2⟩ := cz3 BK184.out; have p185 : 0 ≤ ((ji9) : Int) := odt; have q185 : (ji9) < (l0_1.length : Int) := odt; obtain ⟨ad185, e185, hx185_0⟩ := Kd.at_int HR0_1.out (ji9) p185 q185; cases e185; replace hx185_0 := (HB.out.cell (World.block_lt_of_cell? w _ hx185_0)).trans hx185_0; replace p185 := eq_true p185; replace q185 := eq_true q185; have p186 : 0 ≤ (0 : Int) := (by omega); have q186 : 0 < (l0_1.length : Int) := odt; obtain ⟨ad186, e186, hx186_0⟩ := Kd.at_int HR0_1.out 0 p186 q186; obtain rfl : ad185 = ad186 := (by injection e186); have qi186 : (0 < l0_1.length) = True := eq_true (by omega); (try rw [show ((0 : Int)).toNat = 0 from rfl] at hx186_0); (try rw [Addr.add_zero'] at hx186_0); replace hx186_0 := (HB.out.cell (World.block_lt_of_cell? w _ hx186_0)).trans hx186_0; replace p186 := eq_true p186; replace q186 := eq_true q186))
         go_ret
         exact ⟨by first | rfl | (simp [errW_none, errW_some] <;> rfl) | (simp only [← hji9]; first | rfl | (simp [errW_none, errW_some] <;> rfl)) | (simp [*, errW_none, errW_some] <;> rfl), hbs⟩
        ·rw [if_neg c17] at H
         have c17b0 := decide_eq_false c17
         clear c17
         obtain rfl := Option.some.inj H
         go_enter Tryz.func91, Tryz.ntmps91
         go_wp2_with (first | ((with_reducible refine gate_dst (N := 1) rfl ?_); refine box_ev (w := w) ?hg (N := 1) ?hd hbw (cs := #[.bool a0_0, .slice A0_1 l0_1.length c0_1, .int .i64 a0_2]) (t := 60) ?hr ?_; (case hd => rfl); (case hg => rfl); (case hr => first | (go_simp; done) | (go_simp; rfl)); clear HB; intro gb184 w20 HB BK184 GW184; have GE184 := GW184; obtain ⟨hcz21_0, hcz21_1, hcz21_2, hfz21_0, hfz21_1, hfz21_2⟩ := cz3 BK184.out; have p185 : 0 ≤ ((ji9) : Int) := odt; have q185 : (ji9) < (l0_1.length : Int) := odt; obtain ⟨ad185, e185, hx185_0⟩ := Kd.at_int HR0_1.out (ji9) p185 q185; cases e185; replace hx185_0 := (HB.out.cell (World.block_lt_of_cell? w _ hx185_0)).trans hx185_0; replace p185 := eq_true p185; replace q185 := eq_true q185; have p186 : 0 ≤ (0 : Int) := (by omega); have q186 : 0 < (l0_1.length : Int) := odt; obtain ⟨ad186, e186, hx186_0⟩ := Kd.at_int HR0_1.out 0 p186 q186; obtain rfl : ad185 = ad186 := (by injection e186); have qi186 : (0 < l0_1.length) = True := eq_true (by omega); (try rw [show ((0 : Int)).toNat = 0 from rfl] at hx186_0); (try rw [Addr.add_zero'] at hx186_0); replace hx186_0 := (HB.out.cell (World.block_lt_of_cell? w _ hx186_0)).trans hx186_0; replace p186 := eq_true p186; replace q186 := eq_true q186))
         go_ret
         exact ⟨by first | rfl | (simp [errW_none, errW_some] <;> rfl) | (simp only [← hji9]; first | rfl | (simp [errW_none, errW_some] <;> rfl)) | (simp [*, errW_none, errW_some] <;> rfl), hbs⟩
       ·rw [if_neg c16] at H
        have c16b0 := beq_eq_false_iff_ne.mpr c16
        have c16b1 := bne_iff_ne.mpr c16
        obtain rfl := Option.some.inj H
        go_enter Tryz.func91, Tryz.ntmps91
        go_wp2_with (first | ((with_reducible refine gate_dst (N := 1) rfl ?_); refine box_ev (w := w) ?hg (N := 1) ?hd hbw (cs := #[.bool a0_0, .slice A0_1 l0_1.length c0_1, .int .i64 a0_2]) (t := 60) ?hr ?_; (case hd => rfl); (case hg => rfl); (case hr => first | (go_simp; done) | (go_simp; rfl)); clear HB; intro gb184 w22 HB BK184 GW184; have GE184 := GW184; obtain ⟨hcz23_0, hcz23_1, hcz23_2, hfz23_0, hfz23_1, hfz23_2⟩ := cz3 BK184.out; have p185 : 0 ≤ ((ji9) : Int) := odt; have q185 : (ji9) < (l0_1.length : Int) := odt; obtain ⟨ad185, e185, hx185_0⟩ := Kd.at_int HR0_1.out (ji9) p185 q185; cases e185; replace hx185_0 := (HB.out.cell (World.block_lt_of_cell? w _ hx185_0)).trans hx185_0; replace p185 := eq_true p185; replace q185 := eq_true q185; have p186 : 0 ≤ (0 : Int) := (by omega); have q186 : 0 < (l0_1.length : Int) := odt; obtain ⟨ad186, e186, hx186_0⟩ := Kd.at_int HR0_1.out 0 p186 q186; obtain rfl : ad185 = ad186 := (by injection e186); have qi186 : (0 < l0_1.length) = True := eq_true (by omega); (try rw [show ((0 : Int)).toNat = 0 from rfl] at hx186_0); (try rw [Addr.add_zero'] at hx186_0); replace hx186_0 := (HB.out.cell (World.block_lt_of_cell? w _ hx186_0)).trans hx186_0; replace p186 := eq_true p186; replace q186 := eq_true q186))
        go_ret
        exact ⟨by first | rfl | (simp [errW_none, errW_some] <;> rfl) | (simp only [← hji9]; first | rfl | (simp [errW_none, errW_some] <;> rfl)) | (simp [*, errW_none, errW_some] <;> rfl), hbs⟩
      ·rw [if_neg c15] at H
       exact absurd H (by simp)
    ·rw [if_neg c11] at H
     exact absurd H (by simp)
   ·rw [if_neg c10] at H
    exact absurd H (by simp)
  ·rw [if_neg c8] at H
   have c8b0 := decide_eq_false c8
   have c8b1 : decide (l0_1.length ≤ 2048) = false := decide_eq_false (by omega)
   clear c8
   obtain rfl := Option.some.inj H
   go_enter Tryz.func91, Tryz.ntmps91
   go_wp2_with (first | ((with_reducible refine gate_dst (N := 1) rfl ?_); refine box_ev (w := w) ?hg (N := 1) ?hd hbw (cs := #[.bool a0_0, .slice A0_1 l0_1.length c0_1, .int .i64 a0_2]) (t := 60) ?hr ?_; (case hd => rfl); (case hg => rfl); (case hr => first | (go_simp; done) | (go_simp; rfl)); clear HB; intro gb184 w24 HB BK184 GW184; have GE184 := GW184; obtain ⟨hcz25_0, hcz25_1, hcz25_2, hfz25_0, hfz25_1, hfz25_2⟩ := cz3 BK184.out))
   go_ret
   exact ⟨eqC, hbs⟩
def dyad_valid.l0 : Nat → List (S60) → Int → Int → Option (Bool)
 | 0, _, _, _ => none
 | k + 1, x5, x6, x7 => if x7 < x6 then (if 0 ≤ x7 then (if x7 < (x5.length : Int) then ((dyad_Valid.f ((rd_T60 x5 x7).f0) ((rd_T60 x5 x7).f1) ((rd_T60 x5 x7).f2)).bind fun t189 => (if t189 = true then (dyad_valid.l0 k x5 x6 (wrap64 (x7 + 1))) else (some false))) else (none)) else (none)) else (some true)
def dyad_valid.f (k : Nat) (l0 : List (S60)) : Option (Bool) := dyad_valid.l0 k l0 (l0.length : Int) 0
theorem dyad_valid.calls (k : Nat) (A0 : Option Addr) (c0 : Nat) (l0 : List (S60)) (r : Bool) (w : World) (hr0 : Kd.C k60 w A0 l0.length l0) (hc0 : l0.length ≤ c0) (h : dyad_valid.f k l0 = some r) :
  Calls Tryz.prog 88 #[.slice A0 l0.length c0] w fun e w' => e = .returned (.bool r) ∧ Below w.heap.size w w' := by
 have hu60 := Tryz.underlying60
 have HR0 := asd hr0
 have HC0 := asd hc0
 clear hr0 hc0
 have HB := asd (Below.refl w.heap.size w)
 have H := h
 clear h
 unfold dyad_valid.f at H
 have H' := asd H
 clear H
 go_enter Tryz.func88, Tryz.ntmps88
 go_wp2
 go_loopg [7] k (fun kq v7 w' => ∃ (x7_1 : Int), v7 = .int .i64 x7_1 ∧ Aside0 (dyad_valid.l0 kq l0 (l0.length : Int) x7_1 = some r) ∧ Aside0 (kq ≤ k) ∧ Aside0 (Below w.heap.size w w'))
 case atStart => exact ⟨(0), eqB, H', ⟨Nat.le_refl _⟩, ⟨hbw⟩⟩
 case round =>
  clear H'
  obtain ⟨x7_1, rfl, HA, HK1, HB⟩ := hrel
  cases gk with
  | zero => exact absurd HA.out (by simp [dyad_valid.l0])
  | succ k1 =>
   have H := HA.out
   clear HA
   simp only [dyad_valid.l0] at H
   by_cases c2 : x7_1 < (l0.length : Int)
   ·rw [if_pos c2] at H
    have c2b0 := decide_eq_true c2
    clear c2
    by_cases c3 : 0 ≤ x7_1
    ·rw [if_pos c3] at H
     have c3b0 := decide_eq_true c3
     clear c3
     by_cases c4 : x7_1 < (l0.length : Int)
     ·rw [if_pos c4] at H
      have c4b0 := decide_eq_true c4
      clear c4
      replace H := Option.bind_eq_some_iff.mp H
      obtain ⟨t189, A50, H⟩ := H
      have A5 := asd A50
      clear A50
      by_cases c6 : t189 = true
      ·subst c6
       rw [if_pos rfl] at H
       have H' := asd H
       clear H
       have p187 : 0 ≤ (x7_1 : Int) := odt
       have q187 : x7_1 < (l0.length : Int) := odt
       obtain ⟨ad187, A187_1, c187_1, e187, hx187_0, hx187_1, hx187_2, hl187_1, hi187_1⟩ := at_T60 HR0.out x7_1 p187 q187
       cases e187
       replace hx187_0 := (HB.out.cell (World.block_lt_of_cell? w _ hx187_0)).trans hx187_0
       replace hx187_1 := (HB.out.cell (World.block_lt_of_cell? w _ hx187_1)).trans hx187_1
       replace hx187_2 := (HB.out.cell (World.block_lt_of_cell? w _ hx187_2)).trans hx187_2
       have HR187_1 := asd hi187_1
       have HC187_1 := asd hl187_1
       clear hi187_1 hl187_1
       replace p187 := eq_true p187
       replace q187 := eq_true q187
       go_wp2_with (first | ((with_reducible refine gate_dst (N := 4) rfl ?_); refine box_ev (w := w) ?hg (N := 4) ?hd hbw (cs := #[.bool false, .slice none 0 0, .int .i64 0]) (t := 60) ?hr ?_; (case hd => rfl); (case hg => rfl); (case hr => first | (go_simp; done) | (go_simp; rfl)); clear HB; intro gb188 w7 HB BK188 GW188; have GE188 := GW188; obtain ⟨hcz8_0, hcz8_1, hcz8_2, hfz8_0, hfz8_1, hfz8_2⟩ := cz3 BK188.out) | ((with_reducible refine gate_callee (f := 91) rfl ?_); refine goesL_ (some 12) rfl rfl Tryz.func91 (by kernel_rfl) rfl #[.agg #[.bool ((rd_T60 l0 x7_1).f0), .slice A187_1 ((rd_T60 l0 x7_1).f1).length c187_1, .int .i64 ((rd_T60 l0 x7_1).f2)]] rfl eqA ?_; (with_reducible refine (dyad_Valid.calls ((rd_T60 l0 x7_1).f0) _ _ ((rd_T60 l0 x7_1).f1) ((rd_T60 l0 x7_1).f2) true _ ?side1 ?side2 A5.out).mono ?_); (case side1 => exact Kd.C_below HR187_1.out hbs); (case side2 => exact HC187_1.out); rintro e w9 ⟨rfl, hb⟩; refine ⟨_, rfl, ?_⟩; have n0_ := asd (blk_below (g := gb188) (o := .cells #[.bool ((rd_T60 l0 x7_1).f0), .slice A187_1 ((rd_T60 l0 x7_1).f1).length c187_1, .int .i64 ((rd_T60 l0 x7_1).f2)] 60 (0, 0)) (by (with_reducible repeat (first | refine blk_drewN ?_ _ | refine blk_drew ?_ | refine blk_alloc ?_ _)); refine blk_put (cs := #[.bool ((rd_T60 l0 x7_1).f0), .slice A187_1 ((rd_T60 l0 x7_1).f1).length c187_1, .int .i64 0]) ?_ 2 _ rfl; (with_reducible repeat (first | refine blk_drewN ?_ _ | refine blk_drew ?_ | refine blk_alloc ?_ _)); refine blk_put (cs := #[.bool ((rd_T60 l0 x7_1).f0), .slice none 0 0, .int .i64 0]) ?_ 1 _ rfl; (with_reducible repeat (first | refine blk_drewN ?_ _ | refine blk_drew ?_ | refine blk_alloc ?_ _)); refine blk_put (cs := #[.bool false, .slice none 0 0, .int .i64 0]) ?_ 0 _ rfl; (with_reducible repeat (first | refine blk_drewN ?_ _ | refine blk_drew ?_ | refine blk_alloc ?_ _)); exact BK188.out) hb); have n1_ := asd (below_step hbs hb); clear BK188; clear HB; have BK188 := n0_; have HB := n1_; clear n0_ n1_; (try clear hb)))
       go_roundg k1
       case measure => have := HK1.out; omega
       case rel => exact ⟨(wrap64 (x7_1 + 1)), eqB, H', ⟨by have := HK1.out; omega⟩, ⟨hbs⟩⟩
      ·replace c6 := Bool.eq_false_iff.mpr c6
       subst c6
       rw [if_neg (show ¬ (false = true) by decide)] at H
       obtain rfl := Option.some.inj H
       have p187 : 0 ≤ (x7_1 : Int) := odt
       have q187 : x7_1 < (l0.length : Int) := odt
       obtain ⟨ad187, A187_1, c187_1, e187, hx187_0, hx187_1, hx187_2, hl187_1, hi187_1⟩ := at_T60 HR0.out x7_1 p187 q187
       cases e187
       replace hx187_0 := (HB.out.cell (World.block_lt_of_cell? w _ hx187_0)).trans hx187_0
       replace hx187_1 := (HB.out.cell (World.block_lt_of_cell? w _ hx187_1)).trans hx187_1
       replace hx187_2 := (HB.out.cell (World.block_lt_of_cell? w _ hx187_2)).trans hx187_2
       have HR187_1 := asd hi187_1
       have HC187_1 := asd hl187_1
       clear hi187_1 hl187_1
       replace p187 := eq_true p187
       replace q187 := eq_true q187
       go_wp2_with (first | ((with_reducible refine gate_dst (N := 4) rfl ?_); refine box_ev (w := w) ?hg (N := 4) ?hd hbw (cs := #[.bool false, .slice none 0 0, .int .i64 0]) (t := 60) ?hr ?_; (case hd => rfl); (case hg => rfl); (case hr => first | (go_simp; done) | (go_simp; rfl)); clear HB; intro gb188 w10 HB BK188 GW188; have GE188 := GW188; obtain ⟨hcz11_0, hcz11_1, hcz11_2, hfz11_0, hfz11_1, hfz11_2⟩ := cz3 BK188.out) | ((with_reducible refine gate_callee (f := 91) rfl ?_); refine goesL_ (some 12) rfl rfl Tryz.func91 (by kernel_rfl) rfl #[.agg #[.bool ((rd_T60 l0 x7_1).f0), .slice A187_1 ((rd_T60 l0 x7_1).f1).length c187_1, .int .i64 ((rd_T60 l0 x7_1).f2)]] rfl eqA ?_; (with_reducible refine (dyad_Valid.calls ((rd_T60 l0 x7_1).f0) _ _ ((rd_T60 l0 x7_1).f1) ((rd_T60 l0 x7_1).f2) false _ ?side1 ?side2 A5.out).mono ?_); (case side1 => exact Kd.C_below HR187_1.out hbs); (case side2 => exact HC187_1.out); rintro e w12 ⟨rfl, hb⟩; refine ⟨_, rfl, ?_⟩; have n0_ := asd (blk_below (g := gb188) (o := .cells #[.bool ((rd_T60 l0 x7_1).f0), .slice A187_1 ((rd_T60 l0 x7_1).f1).length c187_1, .int .i64 ((rd_T60 l0 x7_1).f2)] 60 (0, 0)) (by (with_reducible repeat (first | refine blk_drewN ?_ _ | refine blk_drew ?_ | refine blk_alloc ?_ _)); refine blk_put (cs := #[.bool ((rd_T60 l0 x7_1).f0), .slice A187_1 ((rd_T60 l0 x7_1).f1).length c187_1, .int .i64 0]) ?_ 2 _ rfl; (with_reducible repeat (first | refine blk_drewN ?_ _ | refine blk_drew ?_ | refine blk_alloc ?_ _)); refine blk_put (cs := #[.bool ((rd_T60 l0 x7_1).f0), .slice none 0 0, .int .i64 0]) ?_ 1 _ rfl; (with_reducible repeat (first | refine blk_drewN ?_ _ | refine blk_drew ?_ | refine blk_alloc ?_ _)); refine blk_put (cs := #[.bool false, .slice none 0 0, .int .i64 0]) ?_ 0 _ rfl; (with_reducible repeat (first | refine blk_drewN ?_ _ | refine blk_drew ?_ | refine blk_alloc ?_ _)); exact BK188.out) hb); have n1_ := asd (below_step hbs hb); clear BK188; clear HB; have BK188 := n0_; have HB := n1_; clear n0_ n1_; (try clear hb)))
       go_ret
       exact ⟨eqC, hbs⟩
     ·rw [if_neg c4] at H
      exact absurd H (by simp)
    ·rw [if_neg c3] at H
     exact absurd H (by simp)
   ·rw [if_neg c2] at H
    have c2b0 := decide_eq_false c2
    clear c2
    obtain rfl := Option.some.inj H
    go_wp2
    go_ret
    exact ⟨eqC, hbw⟩
def dyad_known.f (a0 : Int) : Option (Bool) := if a0 ≥ 1 then (some (decide (a0 ≤ 3))) else (some false)
theorem dyad_known.calls (a0 : Int) (r : Bool) (w : World) (h : dyad_known.f a0 = some r) :
  Calls Tryz.prog 92 #[.int .i64 a0] w fun e w' => e = .returned (.bool r) ∧ Drawn0 w w' := by
 have H := h
 clear h
 unfold dyad_known.f at H
 by_cases c2 : a0 ≥ 1
 ·rw [if_pos c2] at H
  have c2b0 := decide_eq_true c2
  clear c2
  obtain rfl := Option.some.inj H
  go_enter Tryz.func92, Tryz.ntmps92
  go_wp2
  go_ret
  exact ⟨eqB, dn0⟩
 ·rw [if_neg c2] at H
  have c2b0 := decide_eq_false c2
  clear c2
  obtain rfl := Option.some.inj H
  go_enter Tryz.func92, Tryz.ntmps92
  go_wp2
  go_ret
  exact ⟨eqB, dn0⟩
def dyad_Neg.f (a0_0 : Bool) (l0_1 : List Int) (a0_2 : Int) : Option (Bool × List Int × Int) := (dyad_Valid.f a0_0 l0_1 a0_2).bind fun t192 => (if t192 = true then (if (l0_1.length : Int) = 0 then (some (false, ([] : List Int), 0)) else ((some (([] : List Int) : List Int)).bind fun y193 => (if y193.length + l0_1.length < 35184372088832 then (some (!a0_0, (y193 ++ l0_1), a0_2)) else (none)))) else (some (false, ([] : List Int), 0)))
end Go.Proofs.YthmeocigliephaaGreatDoor.PNa
end
section
namespace Go.Proofs.YthmeocigliephaaGreatDoor.PNa
attribute [local go_sem] f64bits_run f64from_run run_float_some max2_int min2_int max_two min_two max_three min_three max_four min_four
def big_nat_zeros.l0 : Nat → List Int → Int → Int → Option (Int)
 | 0, _, _, _ => none
 | k + 1, x5, x6, x7 => if x7 < x6 then (if 0 ≤ x7 then (if x7 < (x5.length : Int) then (if (rd x5 x7) = 0 then (big_nat_zeros.l0 k x5 x6 (wrap64 (x7 + 1))) else ((bits_TrailingZeros32.f (rd x5 x7)).bind fun t200 => (some (IntKind.u64.wrap (wrap64 ((wrap64 (32 * x7)) + t200)))))) else (none)) else (none)) else (some 0)
def big_nat_zeros.f (k : Nat) (l0 : List Int) : Option (Int) := big_nat_zeros.l0 k l0 (l0.length : Int) 0
theorem big_nat_zeros.calls (k : Nat) (A0 : Option Addr) (c0 : Nat) (l0 : List Int) (r : Int) (w : World) (hr0 : Kd.C (Kd.int .u32) w A0 l0.length l0) (hc0 : l0.length ≤ c0) (h : big_nat_zeros.f k l0 = some r) (hL0 : Go.Proofs.YthmeocigliephaaGreatDoor.Big.Laid w) :
  Calls Tryz.prog 148 #[.slice A0 l0.length c0] w fun e w' => e = .returned (.int .u64 r) ∧ Drawn0 w w' := by
 have HL := asd hL0
 clear hL0
 have HR0 := asd hr0
 have HC0 := asd hc0
 clear hr0 hc0
 have H := h
 clear h
 unfold big_nat_zeros.f at H
 have H' := asd H
 clear H
 go_enter Tryz.func148, Tryz.ntmps148
 go_wp2
 go_loopg [7] k (fun kq v7 w' => ∃ (x7_1 : Int), v7 = .int .i64 x7_1 ∧ Aside0 (big_nat_zeros.l0 kq l0 (l0.length : Int) x7_1 = some r) ∧ Aside0 (kq ≤ k) ∧ Drawn0 w w')
 case atStart => exact ⟨(0), eqB, H', ⟨Nat.le_refl _⟩, dn0⟩
 case round =>
  clear H'
  try clear c1
  obtain ⟨x7_1, rfl, HA, HK1, ⟨m1, rfl⟩⟩ := hrel
  cases gk with
  | zero => exact absurd HA.out (by simp [big_nat_zeros.l0])
  | succ k1 =>
   have H := HA.out
   clear HA
   simp only [big_nat_zeros.l0] at H
   by_cases c2 : x7_1 < (l0.length : Int)
   ·rw [if_pos c2] at H
    have c2b0 := decide_eq_true c2
    clear c2
    by_cases c3 : 0 ≤ x7_1
    ·rw [if_pos c3] at H
     have c3b0 := decide_eq_true c3
     clear c3
     by_cases c4 : x7_1 < (l0.length : Int)
     ·rw [if_pos c4] at H
      have c4b0 := decide_eq_true c4
      clear c4
      by_cases c5 : (rd l0 x7_1) = 0
      ·rw [if_pos c5] at H
       have c5b0 := beq_iff_eq.mpr c5
       have c5b1 := bne_eq_false_iff_eq.mpr c5
       clear c5
       have H' := asd H
       clear H
       have p199 : 0 ≤ (x7_1 : Int) := odt
       have q199 : x7_1 < (l0.length : Int) := odt
       obtain ⟨ad199, e199, hx199_0⟩ := Kd.at_int HR0.out x7_1 p199 q199
       cases e199
       replace p199 := eq_true p199
       replace q199 := eq_true q199
       go_wp2
       go_roundg k1
       case measure => have := HK1.out; omega
       case rel => exact ⟨(wrap64 (x7_1 + 1)), eqB, H', ⟨by have := HK1.out; omega⟩, dn0⟩
      ·rw [if_neg c5] at H
       have c5b0 := beq_eq_false_iff_ne.mpr c5
       have c5b1 := bne_iff_ne.mpr c5
       replace H := Option.bind_eq_some_iff.mp H
       obtain ⟨t200, A60, H⟩ := H
       have A6 := asd A60
       clear A60
       obtain rfl := Option.some.inj H
       have p199 : 0 ≤ (x7_1 : Int) := odt
       have q199 : x7_1 < (l0.length : Int) := odt
       obtain ⟨ad199, e199, hx199_0⟩ := Kd.at_int HR0.out x7_1 p199 q199
       cases e199
       replace p199 := eq_true p199
       replace q199 := eq_true q199
       go_wp2_with (first | ((with_reducible refine gate_callee (f := 159) rfl ?_); refine goesL_ (some 17) rfl rfl Tryz.func159 (by kernel_rfl) rfl #[.int .u32 (rd l0 x7_1)] rfl eqA ?_; (with_reducible refine (bits_TrailingZeros32.calls (rd l0 x7_1) t200 _ A6.out (by first | exact HL.out | exact HL.out.drewN _)).mono ?_); rintro e w' ⟨rfl, ⟨nd, rfl⟩⟩; refine ⟨_, rfl, ?_⟩))
       go_ret
       exact ⟨eqB, dn0⟩
     ·rw [if_neg c4] at H
      exact absurd H (by simp)
    ·rw [if_neg c3] at H
     exact absurd H (by simp)
   ·rw [if_neg c2] at H
    have c2b0 := decide_eq_false c2
    clear c2
    obtain rfl := Option.some.inj H
    go_wp2
    go_ret
    exact ⟨eqB, dn0⟩
end Go.Proofs.YthmeocigliephaaGreatDoor.PNa
end
section
namespace Go.Proofs.YthmeocigliephaaGreatDoor.PNc
attribute [local go_sem] f64bits_run f64from_run run_float_some max2_int min2_int max_two min_two max_three min_three max_four min_four
def errW : Option Int → Value
 | none => .nilIface
 | some c => .iface 0 (.int .i64 c)
theorem errW_none : errW none = .nilIface := rfl
theorem errW_some (c : Int) : errW (some c) = .iface 0 (.int .i64 c) := rfl
theorem info83 : (Tryz.prog.info? 83).map (fun i => (i.zero, i.size, i.bytes)) = some (some (.int .u32 0), 1, 4) := by kernel_rfl
end Go.Proofs.YthmeocigliephaaGreatDoor.PNc
end
section
namespace Go.Proofs.YthmeocigliephaaGreatDoor.PNc
attribute [local go_sem] f64bits_run f64from_run run_float_some max2_int min2_int max_two min_two max_three min_three max_four min_four
def big_nat_add.l0 : Nat → List Int → List Int → Int → List Int → Int → Int → Option (List Int)
 | 0, _, _, _, _, _, _ => none
 | k + 1, x1, x5, x6, x20, x21, x22 => if x22 < x21 then (if 0 ≤ x22 then (if x22 < (x20.length : Int) then (if x22 < (x1.length : Int) then (if x5.length < 35184372088832 then (big_nat_add.l0 k x1 (x5 ++ [(IntKind.u64.wrap ((IntKind.u64.wrap (x6 + (IntKind.u64.wrap (rd x20 x22)))) + (IntKind.u64.wrap (rd x1 x22)))) % 4294967296]) ((IntKind.u64.wrap ((IntKind.u64.wrap (x6 + (IntKind.u64.wrap (rd x20 x22)))) + (IntKind.u64.wrap (rd x1 x22)))) / 4294967296) x20 x21 (wrap64 (x22 + 1))) else (none)) else (if x5.length < 35184372088832 then (big_nat_add.l0 k x1 (x5 ++ [(IntKind.u64.wrap (x6 + (IntKind.u64.wrap (rd x20 x22)))) % 4294967296]) ((IntKind.u64.wrap (x6 + (IntKind.u64.wrap (rd x20 x22)))) / 4294967296) x20 x21 (wrap64 (x22 + 1))) else (none))) else (none)) else (none)) else (if x6 > 0 then (if x5.length < 35184372088832 then (some (x5 ++ [(x6) % 4294967296])) else (none)) else (some x5))
def big_nat_add.f (k : Nat) (l0 : List Int) (l1 : List Int) : Option (List Int) := if (l0.length : Int) < (l1.length : Int) then (none) else (if 0 ≤ (wrap64 ((l0.length : Int) + 1)) then (if (wrap64 ((l0.length : Int) + 1) : Int).toNat ≤ 70368744177664 then (big_nat_add.l0 k l1 (([] : List Int)) 0 l0 (l0.length : Int) 0) else (none)) else (none))
theorem big_nat_add.calls (k : Nat) (A0 : Option Addr) (c0 : Nat) (l0 : List Int) (A1 : Option Addr) (c1 : Nat) (l1 : List Int) (r : List Int) (w : World) (hr0 : Kd.C (Kd.int .u32) w A0 l0.length l0) (hc0 : l0.length ≤ c0) (hr1 : Kd.C (Kd.int .u32) w A1 l1.length l1) (hc1 : l1.length ≤ c1) (h : big_nat_add.f k l0 l1 = some r) :
  Calls Tryz.prog 152 #[.slice A0 l0.length c0, .slice A1 l1.length c1] w fun e w' => ∃ v0_ : Value, e = .returned (v0_) ∧ Kd.R (Kd.int .u32) 83 w' w.heap.size (fun _ => True) v0_ r ∧ Below w.heap.size w w' := by
 have HR0 := asd hr0
 have HC0 := asd hc0
 clear hr0 hc0
 have HR1 := asd hr1
 have HC1 := asd hc1
 clear hr1 hc1
 have HB := asd (Below.refl w.heap.size w)
 have H := h
 clear h
 unfold big_nat_add.f at H
 by_cases c3 : (l0.length : Int) < (l1.length : Int)
 ·rw [if_pos c3] at H
  exact absurd H (by simp)
 ·rw [if_neg c3] at H
  have c3b0 := decide_eq_false c3
  have c3b1 : decide (l0.length < l1.length) = false := decide_eq_false (fun h => c3 (Int.ofNat_lt.mpr h))
  clear c3
  obtain ⟨ji4, hji4⟩ : ∃ j_ : Int, (wrap64 ((l0.length : Int) + 1)) = j_ := ⟨_, rfl⟩
  first | rw [hji4] at H | simp only [hji4] at H ⊢
  have hji4w : (IntKind.i64.wrap ((l0.length : Int) + 1)) = ji4 := (i64_w _).trans hji4
  by_cases c5 : 0 ≤ (ji4)
  ·rw [if_pos c5] at H
   have c5b0 := eq_true c5
   have c5b1 := decide_eq_true c5
   clear c5
   by_cases c6 : (ji4 : Int).toNat ≤ 70368744177664
   ·rw [if_pos c6] at H
    have c6b0 := eq_true c6
    have c6b1 := decide_eq_true c6
    clear c6
    obtain ⟨y104, hy104⟩ : ∃ y_ : List Int, y_ = (([] : List Int)) := ⟨_, rfl⟩
    try rw [Option.bind_some] at H
    try rw [← hy104] at H
    have Ny104 := asd hy104
    clear hy104
    have H' := asd H
    clear H
    go_enter Tryz.func152, Tryz.ntmps152
    go_wp2_with (first | ((with_reducible refine gate_dst (N := 19) rfl ?_); refine Kd.R_make_cap (Kd.int .u32) _ 83 rfl (N := 19) rfl 107 _ _ rfl 0 ji4 rfl (by first | rfl | (rw [List.length_drop]; rfl)) Tryz.underlying107 (.int .u32 0) 4 info83 rfl (by decide) (by omega) 0 (ok := fun _ => True) (okp := fun _ => True) rfl (fun _ hk => hk) trivial (by omega) (odt) (Nat.le_trans (Nat.mul_le_mul_right _ (odt : (ji4 : Int).toNat ≤ 70368744177664)) (by omega)) (Below.refl _ _) (Nat.le_refl _) ?_; simp only [Int.toNat_zero, List.replicate_zero]; intro v105 w7 ho8 hb hg_ hnew_; clear hg_ hnew_; (first | rw [← Ny104.out] at ho8 | (simp only [Int.reduceToNat] at ho8; rw [← Ny104.out] at ho8)); have n0_ := asd (Kd.R_lower ho8 (below_size hbw)); have n1_ := asd (below_step hbw hb); clear HB; have HO106 := n0_; have HB := n1_; clear n0_ n1_; clear hb ho8))
    go_loopg [5, 6, 22] k (fun kq v5 v6 v22 w' => ∃ (x5_1 : List Int) (x6_1 : Int) (x22_1 : Int), v6 = .int .u64 x6_1 ∧ v22 = .int .i64 x22_1 ∧ Aside0 (big_nat_add.l0 kq l1 x5_1 x6_1 l0 (l0.length : Int) x22_1 = some r) ∧ Aside0 (kq ≤ k) ∧ Aside0 (Kd.R (Kd.int .u32) 83 w' w.heap.size (fun _ => True) v5 x5_1) ∧ Aside0 (Below w.heap.size w w'))
    case atStart => exact ⟨(y104), (0), (0), eqB, eqB, H', ⟨Nat.le_refl _⟩, ⟨by (with_reducible repeat (first | apply Kd.R_alloc | apply Kd.R_drewN | apply Kd.R_drew)); exact HO106.out⟩, ⟨hbw⟩⟩
    case round =>
     clear H'
     try clear c1
     try clear p2
     try clear c3
     try clear c3b0
     try clear c3b1
     try clear c5
     try clear c5b0
     try clear c5b1
     try clear c6
     try clear c6b0
     try clear c6b1
     try clear p6
     obtain ⟨x5_1, x6_1, x22_1, rfl, rfl, HA, HK1, HO_5, HB⟩ := hrel
     cases gk with
     | zero => exact absurd HA.out (by simp [big_nat_add.l0])
     | succ k1 =>
      have H := HA.out
      clear HA
      simp only [big_nat_add.l0] at H
      by_cases c9 : x22_1 < (l0.length : Int)
      ·rw [if_pos c9] at H
       have c9b0 := decide_eq_true c9
       clear c9
       by_cases c10 : 0 ≤ x22_1
       ·rw [if_pos c10] at H
        have c10b0 := decide_eq_true c10
        clear c10
        by_cases c11 : x22_1 < (l0.length : Int)
        ·rw [if_pos c11] at H
         have c11b0 := decide_eq_true c11
         clear c11
         by_cases c12 : x22_1 < (l1.length : Int)
         ·rw [if_pos c12] at H
          have c12b0 := decide_eq_true c12
          clear c12
          by_cases c13 : x5_1.length < 35184372088832
          ·rw [if_pos c13] at H
           have LMc13 := asd c13
           clear c13
           obtain ⟨y109, hy109⟩ : ∃ y_ : List Int, y_ = (x5_1 ++ [(IntKind.u64.wrap ((IntKind.u64.wrap (x6_1 + (IntKind.u64.wrap (rd l0 x22_1)))) + (IntKind.u64.wrap (rd l1 x22_1)))) % 4294967296]) := ⟨_, rfl⟩
           try rw [Option.bind_some] at H
           try rw [← hy109] at H
           have Ny109 := asd hy109
           clear hy109
           have H' := asd H
           clear H
           have p107 : 0 ≤ (x22_1 : Int) := odt
           have q107 : x22_1 < (l0.length : Int) := odt
           obtain ⟨ad107, e107, hx107_0⟩ := Kd.at_int HR0.out x22_1 p107 q107
           cases e107
           replace hx107_0 := (HB.out.cell (World.block_lt_of_cell? w _ hx107_0)).trans hx107_0
           replace p107 := eq_true p107
           replace q107 := eq_true q107
           have p108 : 0 ≤ (x22_1 : Int) := odt
           have q108 : x22_1 < (l1.length : Int) := odt
           obtain ⟨ad108, e108, hx108_0⟩ := Kd.at_int HR1.out x22_1 p108 q108
           cases e108
           replace hx108_0 := (HB.out.cell (World.block_lt_of_cell? w _ hx108_0)).trans hx108_0
           replace p108 := eq_true p108
           replace q108 := eq_true q108
           go_wp2_with (first | ((with_reducible refine gate_builtin (b := .append) (xs := #[.tmp 42, .tmp 45]) rfl ?_); at_builtin; refine Kd.R_append (Kd.int .u32) (w0 := w) w.heap.size rfl (.tmp 42) (.tmp 45) 107 83 (.int .u32 0) 4 rfl Tryz.underlying107 info83 rfl (by decide) (by omega) u5 x5_1 ((IntKind.u64.wrap ((IntKind.u64.wrap (x6_1 + (IntKind.u64.wrap (rd l0 x22_1)))) + (IntKind.u64.wrap (rd l1 x22_1)))) % 4294967296) [.int .u32 ((IntKind.u64.wrap ((IntKind.u64.wrap (x6_1 + (IntKind.u64.wrap (rd l0 x22_1)))) + (IntKind.u64.wrap (rd l1 x22_1)))) % 4294967296)] (fun _ => True) (fun _ => False) rfl rfl ?aP (fun _ hk => hk.elim) ?aF ?aO ?aB ?aS ?aL ?_; (case aP => exact rfl); (case aB => exact hbw); (case aF => exact (fun _ _ => trivial)); (case aO => exact (rUp HO_5.out)); (case aS => exact (below_size hbw)); (case aL => have := LMc13.out; omega); intro v110 w14 ho hb hg hat; rw [← Ny109.out] at ho; have n0_ := asd (hb); have n1_ := asd (ho); clear HB; clear HO_5; have HB := n0_; have HO111 := n1_; clear n0_ n1_; clear ho hb hg hat))
           go_roundg k1
           case measure => have := HK1.out; omega
           case rel => exact ⟨(y109), ((IntKind.u64.wrap ((IntKind.u64.wrap (x6_1 + (IntKind.u64.wrap (rd l0 x22_1)))) + (IntKind.u64.wrap (rd l1 x22_1)))) / 4294967296), (wrap64 (x22_1 + 1)), eqB, eqB, H', ⟨by have := HK1.out; omega⟩, ⟨by (with_reducible repeat (first | apply Kd.R_alloc | apply Kd.R_drewN | apply Kd.R_drew)); exact HO111.out⟩, ⟨hbw⟩⟩
          ·rw [if_neg c13] at H
           exact absurd H (by simp)
         ·rw [if_neg c12] at H
          have c12b0 := decide_eq_false c12
          clear c12
          by_cases c15 : x5_1.length < 35184372088832
          ·rw [if_pos c15] at H
           have LMc15 := asd c15
           clear c15
           obtain ⟨y112, hy112⟩ : ∃ y_ : List Int, y_ = (x5_1 ++ [(IntKind.u64.wrap (x6_1 + (IntKind.u64.wrap (rd l0 x22_1)))) % 4294967296]) := ⟨_, rfl⟩
           try rw [Option.bind_some] at H
           try rw [← hy112] at H
           have Ny112 := asd hy112
           clear hy112
           have H' := asd H
           clear H
           have p107 : 0 ≤ (x22_1 : Int) := odt
           have q107 : x22_1 < (l0.length : Int) := odt
           obtain ⟨ad107, e107, hx107_0⟩ := Kd.at_int HR0.out x22_1 p107 q107
           cases e107
           replace hx107_0 := (HB.out.cell (World.block_lt_of_cell? w _ hx107_0)).trans hx107_0
           replace p107 := eq_true p107
           replace q107 := eq_true q107
           go_wp2_with (first | ((with_reducible refine gate_builtin (b := .append) (xs := #[.tmp 42, .tmp 45]) rfl ?_); at_builtin; refine Kd.R_append (Kd.int .u32) (w0 := w) w.heap.size rfl (.tmp 42) (.tmp 45) 107 83 (.int .u32 0) 4 rfl Tryz.underlying107 info83 rfl (by decide) (by omega) u5 x5_1 ((IntKind.u64.wrap (x6_1 + (IntKind.u64.wrap (rd l0 x22_1)))) % 4294967296) [.int .u32 ((IntKind.u64.wrap (x6_1 + (IntKind.u64.wrap (rd l0 x22_1)))) % 4294967296)] (fun _ => True) (fun _ => False) rfl rfl ?aP (fun _ hk => hk.elim) ?aF ?aO ?aB ?aS ?aL ?_; (case aP => exact rfl); (case aB => exact hbw); (case aF => exact (fun _ _ => trivial)); (case aO => exact (rUp HO_5.out)); (case aS => exact (below_size hbw)); (case aL => have := LMc15.out; omega); intro v113 w16 ho hb hg hat; rw [← Ny112.out] at ho; have n0_ := asd (hb); have n1_ := asd (ho); clear HB; clear HO_5; have HB := n0_; have HO114 := n1_; clear n0_ n1_; clear ho hb hg hat))
           go_roundg k1
           case measure => have := HK1.out; omega
           case rel => exact ⟨(y112), ((IntKind.u64.wrap (x6_1 + (IntKind.u64.wrap (rd l0 x22_1)))) / 4294967296), (wrap64 (x22_1 + 1)), eqB, eqB, H', ⟨by have := HK1.out; omega⟩, ⟨by (with_reducible repeat (first | apply Kd.R_alloc | apply Kd.R_drewN | apply Kd.R_drew)); exact HO114.out⟩, ⟨hbw⟩⟩
          ·rw [if_neg c15] at H
           exact absurd H (by simp)
        ·rw [if_neg c11] at H
         exact absurd H (by simp)
       ·rw [if_neg c10] at H
        exact absurd H (by simp)
      ·rw [if_neg c9] at H
       have c9b0 := decide_eq_false c9
       clear c9
       by_cases c17 : x6_1 > 0
       ·rw [if_pos c17] at H
        have c17b0 := decide_eq_true c17
        clear c17
        by_cases c18 : x5_1.length < 35184372088832
        ·rw [if_pos c18] at H
         have LMc18 := asd c18
         clear c18
         obtain ⟨y115, hy115⟩ : ∃ y_ : List Int, y_ = (x5_1 ++ [(x6_1) % 4294967296]) := ⟨_, rfl⟩
         try rw [Option.bind_some] at H
         try rw [← hy115] at H
         have Ny115 := asd hy115
         clear hy115
         obtain rfl := Option.some.inj H
         go_wp2_with (first | ((with_reducible refine gate_builtin (b := .append) (xs := #[.tmp 52, .tmp 55]) rfl ?_); at_builtin; refine Kd.R_append (Kd.int .u32) (w0 := w) w.heap.size rfl (.tmp 52) (.tmp 55) 107 83 (.int .u32 0) 4 rfl Tryz.underlying107 info83 rfl (by decide) (by omega) u5 x5_1 ((x6_1) % 4294967296) [.int .u32 ((x6_1) % 4294967296)] (fun _ => True) (fun _ => False) rfl rfl ?aP (fun _ hk => hk.elim) ?aF ?aO ?aB ?aS ?aL ?_; (case aP => exact rfl); (case aB => exact hbw); (case aF => exact (fun _ _ => trivial)); (case aO => exact (rUp HO_5.out)); (case aS => exact (below_size hbw)); (case aL => have := LMc18.out; omega); intro v116 w19 ho hb hg hat; rw [← Ny115.out] at ho; have n0_ := asd (hb); have n1_ := asd (ho); clear HB; clear HO_5; have HB := n0_; have HO117 := n1_; clear n0_ n1_; clear ho hb hg hat))
         go_ret
         exact ⟨_, by first | rfl | (simp [errW_none, errW_some] <;> rfl) | (simp only [← hji4]; first | rfl | (simp [errW_none, errW_some] <;> rfl)) | (simp [*, errW_none, errW_some] <;> rfl), by (with_reducible repeat (first | apply Kd.R_alloc | apply Kd.R_drewN | apply Kd.R_drew)); exact HO117.out, hbw⟩
        ·rw [if_neg c18] at H
         exact absurd H (by simp)
       ·rw [if_neg c17] at H
        have c17b0 := decide_eq_false c17
        clear c17
        obtain rfl := Option.some.inj H
        go_wp2
        go_ret
        exact ⟨_, by first | rfl | (simp [errW_none, errW_some] <;> rfl) | (simp only [← hji4]; first | rfl | (simp [errW_none, errW_some] <;> rfl)) | (simp [*, errW_none, errW_some] <;> rfl), by (with_reducible repeat (first | apply Kd.R_alloc | apply Kd.R_drewN | apply Kd.R_drew)); exact HO_5.out, hbw⟩
   ·rw [if_neg c6] at H
    exact absurd H (by simp)
  ·rw [if_neg c5] at H
   exact absurd H (by simp)
end Go.Proofs.YthmeocigliephaaGreatDoor.PNc
end
section
namespace Go.Proofs.YthmeocigliephaaGreatDoor.Plain
open Go.Proofs.YthmeocigliephaaGreatDoor.PNa
theorem rd_nat (l : List Int) (i : Nat) : rd l (i : Int) = l.getD i 0 := by unfold rd; simp
theorem w64_nat {i : Nat} (h : i < 4611686018427387904) : wrap64 ((i : Int)) = (i : Int) := by unfold wrap64; omega
theorem w64_succ {i : Nat} (h : i < 4611686018427387904) : wrap64 ((i : Int) + 1) = ((i + 1 : Nat) : Int) := by unfold wrap64; omega
theorem w64_of {x : Int} (h0 : -9223372036854775808 ≤ x) (h1 : x < 9223372036854775808) : wrap64 x = x := by unfold wrap64; omega
theorem u64_of {x : Int} (h0 : 0 ≤ x) (h1 : x < 18446744073709551616) : IntKind.u64.wrap x = x := by rw [IntKind.wrap_u64]; omega
theorem u32_of {x : Int} (h0 : 0 ≤ x) (h1 : x < 4294967296) : IntKind.u32.wrap x = x := by rw [IntKind.wrap_u32]; omega
theorem last_getD (l : List Int) (d : Int) : (l ++ [d]).getD l.length 0 = d := by rw [List.getD_eq_getElem?_getD]; simp
theorem trim_ev : ∀ (n : Nat) (l : List Int), l.length = n → l.length < 4611686018427387904 → Dg l → Ev (fun k => big_nat_trim.l0 k l) (dig (val l)) := by
  intro n
  induction n with
  | zero =>
    intro l hl _ _
    have : l = [] := List.length_eq_zero_iff.1 hl
    subst this
    refine Ev.step (fun k => ?_) (Ev.now _)
    simp [big_nat_trim.l0, dig_zero]
  | succ n ih =>
    intro l hl hb hd
    rcases List.eq_nil_or_concat l with rfl | ⟨r, d, rfl⟩
    · simp at hl
    · rw [List.concat_eq_append] at *
      have hr : r.length = n := by simpa using hl
      have hw : wrap64 (((r ++ [d]).length : Int) - 1) = ((r.length : Nat) : Int) := by rw [List.length_append]; simp; exact w64_nat (by simp at hb; omega)
      have hrd : rd (r ++ [d]) ((r.length : Nat) : Int) = d := by rw [rd_nat, last_getD]
      by_cases h0 : d = 0
      · subst h0
        refine Ev.step (f := fun k => big_nat_trim.l0 k r) (fun k => ?_) ?_
        · simp only [big_nat_trim.l0]
          rw [hw, if_pos (by simp), if_pos (by omega), if_pos (by simp; omega), if_pos hrd, if_pos (by simp; omega)]
          simp
        · rw [dig_append_zero]; exact ih r hr (by simp at hb; omega) hd.left
      · have hn : Nrm (r ++ [d]) := by
          have := hd.right.head
          exact nrm_snoc hd.left (by omega) (by omega)
        rw [dig_val hn]
        refine Ev.step (f := fun k => some (r ++ [d])) (fun k => ?_) (Ev.now _)
        simp only [big_nat_trim.l0]
        rw [hw, if_pos (by simp), if_pos (by omega), if_pos (by simp; omega), if_neg (by rw [hrd]; exact h0)]
theorem trim_law {l : List Int} (hd : Dg l) (hb : l.length < 4611686018427387904) : Ev (fun k => big_nat_trim.f k l) (dig (val l)) := trim_ev _ l rfl hb hd
theorem small_law (x : Nat) (h : x < 18446744073709551616) : Ev (fun k => big_small.f k (x : Int)) (dig x) := by
  have e : val [(x : Int) % 4294967296, ((x : Int) / 4294967296) % 4294967296] = x := by simp [val]; omega
  have hd : Dg [(x : Int) % 4294967296, ((x : Int) / 4294967296) % 4294967296] := Dg.cons (by omega) (by omega) (Dg.one (by omega) (by omega))
  have ht := trim_law hd (by simp)
  rw [e] at ht
  unfold big_small.f
  exact Ev.bind ht (Ev.now _)
def cmpN (a b : Nat) : Int := if a < b then -1 else if a = b then 0 else 1
theorem cmpN_lt {a b : Nat} (h : a < b) : cmpN a b = -1 := by unfold cmpN; rw [if_pos h]
theorem cmpN_gt {a b : Nat} (h : b < a) : cmpN a b = 1 := by unfold cmpN; rw [if_neg (by omega), if_neg (by omega)]
theorem cmpN_eq (a : Nat) : cmpN a a = 0 := by unfold cmpN; rw [if_neg (by omega), if_pos rfl]
theorem cmp_ev (a b : List Int) (ha : Dg a) (hb : Dg b) (he : a.length = b.length) (hl : a.length < 4611686018427387904) :
    ∀ i : Nat, i ≤ a.length → val (a.drop i) = val (b.drop i) → Ev (fun k => big_nat_cmp.l0 k a b ((i : Int) - 1)) (cmpN (val a) (val b)) := by
  intro i
  induction i with
  | zero =>
    intro _ hv
    simp only [List.drop_zero] at hv
    rw [hv, cmpN_eq]
    refine Ev.step (f := fun _ => some 0) (fun k => ?_) (Ev.now _)
    simp [big_nat_cmp.l0]
  | succ i ih =>
    intro hi hv
    have ea : ((i + 1 : Nat) : Int) - 1 = (i : Int) := by omega
    rw [ea]
    have da := val_drop_succ a i (by omega)
    have db := val_drop_succ b i (by omega)
    have ga := ha.get i
    have gb := hb.get i
    have ta := val_take_drop a i (by omega)
    have tb := val_take_drop b i (by omega)
    have la := val_lt (ha.take i)
    have lb := val_lt (hb.take i)
    rw [List.length_take, Nat.min_eq_left (by omega)] at la lb
    have hp := pow32_pos i
    by_cases e : a.getD i 0 = b.getD i 0
    · refine Ev.step (f := fun k => big_nat_cmp.l0 k a b ((i : Int) - 1)) (fun k => ?_) (ih (by omega) (by rw [da, db, hv, e]))
      simp only [big_nat_cmp.l0]
      rw [if_pos (by omega), if_pos (by omega), if_pos (by omega), if_pos (by omega), rd_nat, rd_nat, if_pos e, w64_of (by omega) (by omega)]
    · by_cases h : a.getD i 0 < b.getD i 0
      · have : val a < val b := by
          have h1 : val (a.drop i) + 1 ≤ val (b.drop i) := by omega
          have h2 : 2 ^ (32 * i) * (val (a.drop i) + 1) ≤ 2 ^ (32 * i) * val (b.drop i) := Nat.mul_le_mul_left _ h1
          rw [Nat.mul_add] at h2
          omega
        rw [cmpN_lt this]
        refine Ev.step (f := fun _ => some (-1)) (fun k => ?_) (Ev.now _)
        simp only [big_nat_cmp.l0]
        rw [if_pos (by omega), if_pos (by omega), if_pos (by omega), if_pos (by omega), rd_nat, rd_nat, if_neg e, if_pos h]
      · have : val b < val a := by
          have h1 : val (b.drop i) + 1 ≤ val (a.drop i) := by omega
          have h2 : 2 ^ (32 * i) * (val (b.drop i) + 1) ≤ 2 ^ (32 * i) * val (a.drop i) := Nat.mul_le_mul_left _ h1
          rw [Nat.mul_add] at h2
          omega
        rw [cmpN_gt this]
        refine Ev.step (f := fun _ => some 1) (fun k => ?_) (Ev.now _)
        simp only [big_nat_cmp.l0]
        rw [if_pos (by omega), if_pos (by omega), if_pos (by omega), if_pos (by omega), rd_nat, rd_nat, if_neg e, if_neg h]
theorem lt_of_length {a b : Nat} (h : (dig a).length < (dig b).length) : a < b := by
  have h1 := le_of_dig_length h
  have h2 := lt_dig_length a
  omega
theorem cmp_law (a b : Nat) (hl : (dig a).length < 4611686018427387904) : Ev (fun k => big_nat_cmp.f k (dig a) (dig b)) (cmpN a b) := by
  unfold big_nat_cmp.f
  by_cases he : (dig a).length = (dig b).length
  · have h := cmp_ev (dig a) (dig b) (dg_dig a) (dg_dig b) he hl (dig a).length (Nat.le_refl _) (by rw [List.drop_length, he, List.drop_length])
    rw [val_dig, val_dig] at h
    refine Ev.congr (f := fun k => big_nat_cmp.l0 k (dig a) (dig b) (((dig a).length : Int) - 1)) (fun k => ?_) h
    rw [if_pos (by omega), w64_of (by omega) (by omega)]
  · by_cases h : (dig a).length < (dig b).length
    · rw [cmpN_lt (lt_of_length h)]
      exact Ev.congr (f := fun _ => some (-1)) (fun k => by rw [if_neg (by omega), if_pos (by omega)]) (Ev.now _)
    · rw [cmpN_gt (lt_of_length (by omega))]
      exact Ev.congr (f := fun _ => some 1) (fun k => by rw [if_neg (by omega), if_neg (by omega)]) (Ev.now _)
end Go.Proofs.YthmeocigliephaaGreatDoor.Plain
end
section
namespace Go.Proofs.YthmeocigliephaaGreatDoor.Plain
open Go.Proofs.YthmeocigliephaaGreatDoor.PNa
theorem nrm_of_ge {l : List Int} (h : Dg l) (hg : l ≠ [] → 2 ^ (32 * (l.length - 1)) ≤ val l) : Nrm l := by
  refine (nrm_iff h).2 ?_
  rcases List.eq_nil_or_concat l with rfl | ⟨r, d, rfl⟩
  · exact .inl rfl
  · right
    rw [List.concat_eq_append] at *
    have h1 := hg (by simp)
    have h2 := val_lt h.left
    rw [val_snoc] at h1
    simp only [List.length_append, List.length_cons, List.length_nil, Nat.zero_add, Nat.add_sub_cancel] at h1 ⊢
    rw [last_getD]
    rintro rfl
    simp at h1; omega
theorem dig_of_ge {l : List Int} (h : Dg l) (hg : l ≠ [] → 2 ^ (32 * (l.length - 1)) ≤ val l) : l = dig (val l) := (dig_val (nrm_of_ge h hg)).symm
theorem val_take_succ' (l : List Int) (k : Nat) : val (l.take (k + 1)) = val (l.take k) + 2 ^ (32 * k) * (l.getD k 0).toNat := by
  by_cases hk : k < l.length
  · exact val_take_succ l k hk
  · rw [List.take_of_length_le (by omega), List.take_of_length_le (by omega), List.getD_eq_getElem?_getD, List.getElem?_eq_none (by omega)]; simp
theorem Dg.nat {l : List Int} (h : Dg l) (k : Nat) : ∃ d : Nat, l.getD k 0 = (d : Int) ∧ d < 4294967296 := by
  have := h.get k; exact ⟨(l.getD k 0).toNat, by omega, by omega⟩
theorem add_fin (p q x : List Int) (c : Nat) (hp : Nrm p) (hq : Dg q) (hlen : q.length ≤ p.length) (hx : Dg x) (hxl : x.length = p.length) (hc : c ≤ 1)
    (hv : val x + 2 ^ (32 * p.length) * c = val p + val q) : (if c = 0 then x else x ++ [(c : Int)]) = dig (val p + val q) := by
  by_cases h0 : c = 0
  · subst h0
    rw [if_pos rfl, ← hv, Nat.mul_zero, Nat.add_zero]
    refine dig_of_ge hx (fun hn => ?_)
    have hpn : p ≠ [] := by rintro rfl; exact hn (List.length_eq_zero_iff.1 hxl)
    have hpl : 0 < p.length := List.length_pos_iff.2 hpn
    have := le_of_dig_length (n := val p) (k := x.length - 1) (by rw [dig_val hp]; omega)
    omega
  · have h1 : c = 1 := by omega
    subst h1
    rw [if_neg h0]
    have e : val (x ++ [((1 : Nat) : Int)]) = val p + val q := by rw [val_snoc, hxl, ← hv]; rfl
    rw [← e]
    exact (dig_val (nrm_snoc hx (by omega) (by omega))).symm
theorem add_ev_c (p q : List Int) (hp : Nrm p) (hq : Dg q) (hlen : q.length ≤ p.length) (hb : p.length < 35184372088832) :
    ∀ (d i c : Nat) (x : List Int), d = p.length - i → i ≤ p.length → x.length = i → Dg x → c ≤ 1 → val x + 2 ^ (32 * i) * c = val (p.take i) + val (q.take i) →
      Ev (fun k => PNc.big_nat_add.l0 k q x (c : Int) p (p.length : Int) (i : Int)) (dig (val p + val q)) := by
  intro d
  induction d with
  | zero =>
    intro i c x hd hi hx hdx hc hv
    have hi' : i = p.length := by omega
    subst hi'
    rw [List.take_length, List.take_of_length_le hlen] at hv
    have hf := add_fin p q x c hp hq hlen hdx hx hc hv
    by_cases h0 : c = 0
    · subst h0
      rw [if_pos rfl] at hf
      refine Ev.step (f := fun _ => some x) (fun k => ?_) (hf ▸ Ev.now x)
      simp only [PNc.big_nat_add.l0]
      rw [if_neg (by omega), if_neg (by omega)]
    · rw [if_neg h0] at hf
      refine Ev.step (f := fun _ => some (x ++ [(c : Int)])) (fun k => ?_) (hf ▸ Ev.now _)
      simp only [PNc.big_nat_add.l0]
      rw [if_neg (by omega), if_pos (by omega), if_pos (by omega), show (c : Int) % 4294967296 = c from by omega]
  | succ d ih =>
    intro i c x hd hi hx hdx hc hv
    obtain ⟨pd, hpd, hp1⟩ := hp.1.nat i
    obtain ⟨qd, hqd, hq1⟩ := hq.nat i
    have tp := val_take_succ' p i
    have tq := val_take_succ' q i
    rw [hpd, Int.toNat_natCast] at tp
    rw [hqd, Int.toNat_natCast] at tq
    have e1 : IntKind.u64.wrap ((c : Int) + IntKind.u64.wrap (pd : Int)) = ((c + pd : Nat) : Int) := by rw [u64_of (x := (pd : Int)) (by omega) (by omega), u64_of (by omega) (by omega)]; omega
    have hnew : ∀ s : Nat, s = c + pd + qd → val (x ++ [((s % 4294967296 : Nat) : Int)]) + 2 ^ (32 * (i + 1)) * (s / 4294967296) = val (p.take (i + 1)) + val (q.take (i + 1)) := by
      intro s hs
      rw [val_snoc, hx, tp, tq, Int.toNat_natCast, pow32_succ]
      have h1 : 2 ^ (32 * i) * (s % 4294967296) + 4294967296 * 2 ^ (32 * i) * (s / 4294967296) = 2 ^ (32 * i) * s := by
        rw [Nat.mul_comm 4294967296, Nat.mul_assoc, ← Nat.mul_add]; congr 1; omega
      have h2 : 2 ^ (32 * i) * s = 2 ^ (32 * i) * c + 2 ^ (32 * i) * pd + 2 ^ (32 * i) * qd := by rw [hs, Nat.mul_add, Nat.mul_add]
      omega
    have hs2 := ih (i + 1) ((c + pd + qd) / 4294967296) (x ++ [(((c + pd + qd) % 4294967296 : Nat) : Int)]) (by omega) (by omega) (by simp [hx]) (hdx.append (Dg.one (by omega) (by omega))) (by omega) (hnew _ rfl)
    refine Ev.step (fun k => ?_) hs2
    simp only [PNc.big_nat_add.l0]
    rw [if_pos (by omega), if_pos (by omega), if_pos (by omega)]
    by_cases hlq : i < q.length
    · rw [if_pos (by omega), if_pos (by omega), rd_nat, rd_nat, hpd, hqd, e1]
      have e2 : IntKind.u64.wrap (((c + pd : Nat) : Int) + IntKind.u64.wrap (qd : Int)) = ((c + pd + qd : Nat) : Int) := by rw [u64_of (x := (qd : Int)) (by omega) (by omega), u64_of (by omega) (by omega)]; omega
      rw [e2, w64_succ (by omega)]
      rw [show ((c + pd + qd : Nat) : Int) % 4294967296 = (((c + pd + qd) % 4294967296 : Nat) : Int) from by omega, show ((c + pd + qd : Nat) : Int) / 4294967296 = (((c + pd + qd) / 4294967296 : Nat) : Int) from by omega]
    · have hq0 : qd = 0 := by
        rw [List.getD_eq_getElem?_getD, List.getElem?_eq_none (by omega)] at hqd; simp at hqd; omega
      subst hq0
      rw [if_neg (by omega), if_pos (by omega), rd_nat, hpd, e1, w64_succ (by omega)]
      rw [show ((c + pd : Nat) : Int) % 4294967296 = (((c + pd + 0) % 4294967296 : Nat) : Int) from by omega, show ((c + pd : Nat) : Int) / 4294967296 = (((c + pd + 0) / 4294967296 : Nat) : Int) from by omega]
theorem add_same : ∀ (k : Nat) (x1 x5 : List Int) (x6 : Int) (x20 : List Int) (x21 x22 : Int), PNd.big_nat_add.l0 k x1 x5 x6 x20 x21 x22 = PNc.big_nat_add.l0 k x1 x5 x6 x20 x21 x22 := by
  intro k
  induction k with
  | zero => intros; rfl
  | succ k ih => intros; simp only [PNd.big_nat_add.l0, PNc.big_nat_add.l0, ih]
theorem addc_law (a b : Nat) (hlen : (dig b).length ≤ (dig a).length) (hb : (dig a).length < 35184372088832) : Ev (fun k => PNc.big_nat_add.f k (dig a) (dig b)) (dig (a + b)) := by
  have h := add_ev_c (dig a) (dig b) (nrm_dig a) (dg_dig b) hlen hb _ 0 0 [] rfl (by omega) rfl Dg.nil (by omega) (by simp)
  rw [val_dig, val_dig] at h
  refine Ev.congr (fun k => ?_) h
  unfold PNc.big_nat_add.f
  rw [if_neg (by omega), w64_succ (by omega), if_pos (by omega), if_pos (by omega)]
  rfl
theorem addd_law (a b : Nat) (hlen : (dig a).length < (dig b).length) (hb : (dig b).length < 35184372088832) : Ev (fun k => PNd.big_nat_add.f k (dig a) (dig b)) (dig (a + b)) := by
  have h := add_ev_c (dig b) (dig a) (nrm_dig b) (dg_dig a) (by omega) hb _ 0 0 [] rfl (by omega) rfl Dg.nil (by omega) (by simp)
  rw [val_dig, val_dig, Nat.add_comm] at h
  refine Ev.congr (fun k => ?_) h
  unfold PNd.big_nat_add.f
  rw [if_pos (by omega), w64_succ (by omega), if_pos (by omega), if_pos (by omega), add_same]
  rfl
theorem sub_ev (p q : List Int) (hp : Dg p) (hq : Dg q) (hlen : q.length ≤ p.length) (hle : val q ≤ val p) (hb : p.length < 35184372088832) :
    ∀ (d i c : Nat) (x : List Int), d = p.length - i → i ≤ p.length → x.length = i → Dg x → c ≤ 1 → val x + val (q.take i) = val (p.take i) + 2 ^ (32 * i) * c →
      Ev (fun k => big_nat_sub.l0 k q x (c : Int) p (p.length : Int) (i : Int)) (dig (val p - val q)) := by
  intro d
  induction d with
  | zero =>
    intro i c x hd hi hx hdx hc hv
    have hi' : i = p.length := by omega
    subst hi'
    rw [List.take_length, List.take_of_length_le hlen] at hv
    have hx1 := val_lt hdx
    rw [hx] at hx1
    have hc0 : c = 0 := by
      rcases Nat.eq_zero_or_pos c with h | h
      · exact h
      · have : c = 1 := by omega
        subst this; omega
    subst hc0
    have e : val x = val p - val q := by omega
    refine Ev.step (f := fun k => big_nat_trim.f k x) (fun k => ?_) (e ▸ trim_law hdx (by omega))
    simp only [big_nat_sub.l0]
    rw [if_neg (by omega)]
    cases big_nat_trim.f k x <;> rfl
  | succ d ih =>
    intro i c x hd hi hx hdx hc hv
    obtain ⟨pd, hpd, hp1⟩ := hp.nat i
    obtain ⟨qd, hqd, hq1⟩ := hq.nat i
    have tp := val_take_succ' p i
    have tq := val_take_succ' q i
    rw [hpd, Int.toNat_natCast] at tp
    rw [hqd, Int.toNat_natCast] at tq
    have hnew : ∀ (s c' : Nat), s + c + qd = pd + 4294967296 * c' → val (x ++ [((s : Nat) : Int)]) + val (q.take (i + 1)) = val (p.take (i + 1)) + 2 ^ (32 * (i + 1)) * c' := by
      intro s c' hs
      rw [val_snoc, hx, tp, tq, Int.toNat_natCast, pow32_succ]
      have h1 : 2 ^ (32 * i) * (s + c + qd) = 2 ^ (32 * i) * (pd + 4294967296 * c') := by rw [hs]
      rw [Nat.mul_add, Nat.mul_add, Nat.mul_add] at h1
      have h2 : 4294967296 * 2 ^ (32 * i) * c' = 2 ^ (32 * i) * (4294967296 * c') := by rw [Nat.mul_comm 4294967296, Nat.mul_assoc]
      omega
    have hgo : ∀ (s c' : Nat), s + c + qd = pd + 4294967296 * c' → s < 4294967296 → c' ≤ 1 → Ev (fun k => big_nat_sub.l0 k q (x ++ [((s : Nat) : Int)]) (c' : Int) p (p.length : Int) ((i + 1 : Nat) : Int)) (dig (val p - val q)) :=
      fun s c' h1 h2 h3 => ih (i + 1) c' _ (by omega) (by omega) (by simp [hx]) (hdx.append (Dg.one (by omega) (by omega))) h3 (hnew s c' h1)
    have ep : IntKind.u64.wrap (pd : Int) = (pd : Int) := u64_of (by omega) (by omega)
    by_cases hlq : i < q.length
    · have eq : IntKind.u64.wrap ((c : Int) + IntKind.u64.wrap (qd : Int)) = ((c + qd : Nat) : Int) := by rw [u64_of (x := (qd : Int)) (by omega) (by omega), u64_of (by omega) (by omega)]; omega
      by_cases hlt : pd < c + qd
      · refine Ev.step (fun k => ?_) (hgo (pd + 4294967296 - (c + qd)) 1 (by omega) (by omega) (by omega))
        simp only [big_nat_sub.l0]
        rw [if_pos (by omega), if_pos (by omega), if_pos (by omega), if_pos (by omega), rd_nat, rd_nat, hpd, hqd, ep, eq, if_pos (by omega), if_pos (by omega), w64_succ (by omega)]
        congr 4
        rw [IntKind.wrap_u64]; omega
      · refine Ev.step (fun k => ?_) (hgo (pd - (c + qd)) 0 (by omega) (by omega) (by omega))
        simp only [big_nat_sub.l0]
        rw [if_pos (by omega), if_pos (by omega), if_pos (by omega), if_pos (by omega), rd_nat, rd_nat, hpd, hqd, ep, eq, if_neg (by omega), if_pos (by omega), w64_succ (by omega)]
        congr 4
        rw [IntKind.wrap_u64]; omega
    · have hq0 : qd = 0 := by
        rw [List.getD_eq_getElem?_getD, List.getElem?_eq_none (by omega)] at hqd; simp at hqd; omega
      subst hq0
      by_cases hlt : pd < c
      · refine Ev.step (fun k => ?_) (hgo (pd + 4294967296 - c) 1 (by omega) (by omega) (by omega))
        simp only [big_nat_sub.l0]
        rw [if_pos (by omega), if_pos (by omega), if_pos (by omega), if_neg (by omega), rd_nat, hpd, ep, if_pos (by omega), if_pos (by omega), w64_succ (by omega)]
        congr 4
        rw [IntKind.wrap_u64]; omega
      · refine Ev.step (fun k => ?_) (hgo (pd - c) 0 (by omega) (by omega) (by omega))
        simp only [big_nat_sub.l0]
        rw [if_pos (by omega), if_pos (by omega), if_pos (by omega), if_neg (by omega), rd_nat, hpd, ep, if_neg (by omega), if_pos (by omega), w64_succ (by omega)]
        congr 4
        rw [IntKind.wrap_u64]; omega
theorem dig_length_mono {a b : Nat} (h : a ≤ b) : (dig a).length ≤ (dig b).length := dig_length_le (Nat.lt_of_le_of_lt h (lt_dig_length b))
theorem sub_law (a b : Nat) (hle : b ≤ a) (hb : (dig a).length < 35184372088832) : Ev (fun k => big_nat_sub.f k (dig a) (dig b)) (dig (a - b)) := by
  have h := sub_ev (dig a) (dig b) (dg_dig a) (dg_dig b) (dig_length_mono hle) (by rw [val_dig, val_dig]; exact hle) hb _ 0 0 [] rfl (by omega) rfl Dg.nil (by omega) (by simp)
  rw [val_dig, val_dig] at h
  refine Ev.congr (fun k => ?_) h
  unfold big_nat_sub.f
  rw [if_pos (by omega), if_pos (by omega)]
  rfl
end Go.Proofs.YthmeocigliephaaGreatDoor.Plain
end
section
namespace Go.Proofs.YthmeocigliephaaGreatDoor.Plain
open Go.Proofs.YthmeocigliephaaGreatDoor.PNa
theorem bits_or_u32_nat (a b : Nat) (ha : a < 4294967296) (hb : b < 4294967296) : bits .or .u32 (a : Int) (b : Int) = ((a ||| b : Nat) : Int) := by
  have hx : a ||| b < 2 ^ 32 := Nat.or_lt_two_pow (by omega) (by omega)
  have h1 : (BitVec.ofInt 32 (a : Int)).toNat = a := by
    rw [BitVec.ofInt_natCast, BitVec.toNat_ofNat]; exact Nat.mod_eq_of_lt (by omega)
  have h2 : (BitVec.ofInt 32 (b : Int)).toNat = b := by
    rw [BitVec.ofInt_natCast, BitVec.toNat_ofNat]; exact Nat.mod_eq_of_lt (by omega)
  show IntKind.u32.wrap ((BitVec.ofInt 32 (a : Int) ||| BitVec.ofInt 32 (b : Int)).toNat : Int) = _
  rw [BitVec.toNat_or, h1, h2, wrap_u32']
  omega
theorem bits_or_u64_nat (a b : Nat) (ha : a < 18446744073709551616) (hb : b < 18446744073709551616) : bits .or .u64 (a : Int) (b : Int) = ((a ||| b : Nat) : Int) := by
  have hx : a ||| b < 2 ^ 64 := Nat.or_lt_two_pow (by omega) (by omega)
  have h1 : (BitVec.ofInt 64 (a : Int)).toNat = a := by
    rw [BitVec.ofInt_natCast, BitVec.toNat_ofNat]; exact Nat.mod_eq_of_lt (by omega)
  have h2 : (BitVec.ofInt 64 (b : Int)).toNat = b := by
    rw [BitVec.ofInt_natCast, BitVec.toNat_ofNat]; exact Nat.mod_eq_of_lt (by omega)
  show IntKind.u64.wrap ((BitVec.ofInt 64 (a : Int) ||| BitVec.ofInt 64 (b : Int)).toNat : Int) = _
  rw [BitVec.toNat_or, h1, h2, IntKind.wrap_u64]
  omega
theorem or_add {a b s : Nat} (h : b < 2 ^ s) : (2 ^ s * a) ||| b = 2 ^ s * a + b := (Nat.two_pow_add_eq_or_of_lt h a).symm
theorem pow2_split {s : Nat} (h : s ≤ 32) : 2 ^ s * 2 ^ (32 - s) = 4294967296 := by rw [← Nat.pow_add, show s + (32 - s) = 32 by omega]
theorem shl_digit (d c s : Nat) (hd : d < 4294967296) (hs : s < 32) (hc : c < 2 ^ s) :
    bits .or .u32 (shl .u32 (d : Int) (s : Int)) (c : Int) = (((d * 2 ^ s + c) % 4294967296 : Nat) : Int) ∧
    (shl .u64 (IntKind.u64.wrap (d : Int)) (s : Int)) / 4294967296 % 4294967296 = (((d * 2 ^ s + c) / 4294967296 : Nat) : Int) ∧ (d * 2 ^ s + c) / 4294967296 < 2 ^ s := by
  have hp := pow2_split (s := s) (by omega)
  have h2 : 0 < 2 ^ (32 - s) := Nat.pow_pos (by omega)
  have h1 : 0 < 2 ^ s := Nat.pow_pos (by omega)
  have hs2 : 2 ^ s ≤ 2147483648 := Nat.pow_le_pow_right (by omega) (show s ≤ 31 by omega)
  -- d = q * 2^(32-s) + r
  have hqr := Nat.div_add_mod d (2 ^ (32 - s))
  have hr := Nat.mod_lt d h2
  generalize hq : d / 2 ^ (32 - s) = q at hqr
  generalize hrr : d % 2 ^ (32 - s) = r at hqr hr
  have e1 : d * 2 ^ s = q * 4294967296 + 2 ^ s * r := by rw [← hqr, Nat.add_mul, ← hp]; rw [Nat.mul_comm (2 ^ (32 - s)) q, Nat.mul_assoc, Nat.mul_comm (2 ^ (32 - s)) (2 ^ s), Nat.mul_comm r]
  have e2 : 2 ^ s * r + 2 ^ s ≤ 4294967296 := by
    have : 2 ^ s * (r + 1) ≤ 2 ^ s * 2 ^ (32 - s) := Nat.mul_le_mul_left _ (by omega)
    rw [Nat.mul_add] at this; omega
  have hqs : q < 2 ^ s := by
    rw [← hq]; apply Nat.div_lt_of_lt_mul; rw [Nat.mul_comm, hp]; exact hd
  have m1 : (d * 2 ^ s + c) % 4294967296 = 2 ^ s * r + c := by rw [e1]; omega
  have m2 : (d * 2 ^ s + c) / 4294967296 = q := by rw [e1]; omega
  have hmin : min (s : Int).toNat IntKind.u32.bits = s := by simp [IntKind.bits]; omega
  have hmin' : min (s : Int).toNat IntKind.u64.bits = s := by simp [IntKind.bits]; omega
  refine ⟨?_, ?_, by rw [m2]; exact hqs⟩
  · have : shl .u32 (d : Int) (s : Int) = ((2 ^ s * r : Nat) : Int) := by
      unfold shl; rw [hmin, wrap_u32', show (d : Int) * 2 ^ s = ((d * 2 ^ s : Nat) : Int) by rw [Int.natCast_mul, Int.natCast_pow]; rfl, e1]; omega
    rw [this, bits_or_u32_nat _ _ (by omega) (by omega), or_add hc, m1]
  · have : shl .u64 (IntKind.u64.wrap (d : Int)) (s : Int) = ((d * 2 ^ s : Nat) : Int) := by
      unfold shl; rw [hmin', u64_of (x := (d : Int)) (by omega) (by omega), show (d : Int) * 2 ^ s = ((d * 2 ^ s : Nat) : Int) by rw [Int.natCast_mul, Int.natCast_pow]; rfl, e1, u64_of (by omega) (by omega)]
    rw [this, m2, e1]; omega
theorem shl_ev (p : List Int) (s K : Nat) (hp : Dg p) (hs : s < 32) (hb : K + p.length < 35184372088831) :
    ∀ (d i c : Nat) (y : List Int), d = p.length - i → i ≤ p.length → y.length = i → Dg y → c < 2 ^ s → val y + 2 ^ (32 * i) * c = val (p.take i) * 2 ^ s →
      Ev (fun k => big_nat_shl.l0 k (List.replicate K 0 ++ y) (s : Int) (c : Int) p (p.length : Int) (i : Int)) (dig (val p * 2 ^ (32 * K + s))) := by
  intro d
  induction d with
  | zero =>
    intro i c y hd hi hy hdy hc hv
    have hi' : i = p.length := by omega
    subst hi'
    rw [List.take_length] at hv
    have hs2 : 2 ^ s ≤ 2147483648 := Nat.pow_le_pow_right (by omega) (show s ≤ 31 by omega)
    have e : val (List.replicate K 0 ++ y ++ [(c : Int)]) = val p * 2 ^ (32 * K + s) := by
      rw [List.append_assoc, val_append, val_zeros, List.length_replicate, Nat.zero_add, val_snoc, hy, Int.toNat_natCast, hv, Nat.pow_add, Nat.mul_comm (2 ^ (32 * K)), Nat.mul_assoc, Nat.mul_comm (2 ^ s)]
    have ht := trim_law (l := List.replicate K 0 ++ y ++ [(c : Int)]) (((Dg.zeros K).append hdy).append (Dg.one (by omega) (by omega))) (by simp; omega)
    rw [e] at ht
    refine Ev.step (f := fun k => big_nat_trim.f k (List.replicate K 0 ++ y ++ [(c : Int)])) (fun k => ?_) ht
    simp only [big_nat_shl.l0]
    rw [if_neg (by omega), if_pos (by simp; omega)]
    cases big_nat_trim.f k (List.replicate K 0 ++ y ++ [(c : Int)]) <;> rfl
  | succ d ih =>
    intro i c y hd hi hy hdy hc hv
    obtain ⟨pd, hpd, hp1⟩ := hp.nat i
    have tp := val_take_succ' p i
    rw [hpd, Int.toNat_natCast] at tp
    obtain ⟨s1, s2, s3⟩ := shl_digit pd c s hp1 hs hc
    have hnew : val (y ++ [(((pd * 2 ^ s + c) % 4294967296 : Nat) : Int)]) + 2 ^ (32 * (i + 1)) * ((pd * 2 ^ s + c) / 4294967296) = val (p.take (i + 1)) * 2 ^ s := by
      rw [val_snoc, hy, tp, Int.toNat_natCast, pow32_succ, Nat.add_mul, ← hv]
      have h1 : 2 ^ (32 * i) * ((pd * 2 ^ s + c) % 4294967296) + 4294967296 * 2 ^ (32 * i) * ((pd * 2 ^ s + c) / 4294967296) = 2 ^ (32 * i) * (pd * 2 ^ s + c) := by
        rw [Nat.mul_comm 4294967296, Nat.mul_assoc, ← Nat.mul_add]; congr 1; omega
      rw [Nat.mul_add] at h1
      have h2 : 2 ^ (32 * i) * pd * 2 ^ s = 2 ^ (32 * i) * (pd * 2 ^ s) := Nat.mul_assoc _ _ _
      omega
    refine Ev.step (fun k => ?_) (ih (i + 1) ((pd * 2 ^ s + c) / 4294967296) _ (by omega) (by omega) (by simp [hy]) (hdy.append (Dg.one (by omega) (by omega))) s3 hnew)
    simp only [big_nat_shl.l0]
    rw [if_pos (by omega), if_pos (by omega), if_pos (by omega), if_pos (by omega), if_pos (by simp; omega), rd_nat, hpd, s1, s2, w64_succ (by omega), List.append_assoc]
theorem shl_law (a k0 : Nat) (hb : (dig a).length + k0 / 32 < 35184372088830) : Ev (fun k => big_nat_shl.f k (dig a) (k0 : Int)) (dig (a * 2 ^ k0)) := by
  unfold big_nat_shl.f
  by_cases h0 : a = 0
  · subst h0
    rw [Nat.zero_mul, dig_zero]
    exact Ev.congr (fun k => if_pos rfl) (Ev.now _)
  · have hne := dig_ne h0
    have hl : (dig a).length ≠ 0 := fun h => hne (List.length_eq_zero_iff.1 h)
    have h := shl_ev (dig a) (k0 % 32) (k0 / 32) (dg_dig a) (by omega) (by omega) _ 0 0 [] rfl (by omega) rfl Dg.nil (Nat.pow_pos (by omega)) (by simp)
    rw [val_dig, show 32 * (k0 / 32) + k0 % 32 = k0 by omega] at h
    have ew : wrap64 (IntKind.u64.wrap (Int.tdiv (k0 : Int) 32)) = ((k0 / 32 : Nat) : Int) := by
      rw [Int.tdiv_eq_ediv_of_nonneg (by omega), show ((k0 : Int) / 32) = ((k0 / 32 : Nat) : Int) by omega, u64_of (by omega) (by omega), w64_nat (by omega)]
    have em : Int.tmod (k0 : Int) 32 = ((k0 % 32 : Nat) : Int) := by rw [Int.tmod_eq_emod_of_nonneg (by omega)]; omega
    refine Ev.congr (fun k => ?_) h
    rw [if_neg (by omega), ew, em, if_pos (by omega)]
    have e2 : wrap64 (wrap64 (((dig a).length : Int) + ((k0 / 32 : Nat) : Int)) + 1) = (((dig a).length + k0 / 32 + 1 : Nat) : Int) := by
      rw [w64_of (x := ((dig a).length : Int) + ((k0 / 32 : Nat) : Int)) (by omega) (by omega), w64_of (by omega) (by omega)]; omega
    rw [e2, if_pos (by omega), if_pos (by omega), Int.toNat_natCast, List.append_nil]
    rfl
theorem shr_ev (p : List Int) (s : Nat) (hp : Dg p) (hs : s < 32) (hb : p.length < 35184372088831) :
    ∀ (d i : Nat) (x : List Int), d = p.length - i → i ≤ p.length → x.length = i → Dg x → val x = (val p / 2 ^ s) % 2 ^ (32 * i) →
      Ev (fun k => big_nat_shr.l0 k p x (s : Int) p (p.length : Int) (i : Int)) (dig (val p / 2 ^ s)) := by
  intro d
  induction d with
  | zero =>
    intro i x hd hi hx hdx hv
    have hi' : i = p.length := by omega
    subst hi'
    have hlt : val p / 2 ^ s < 2 ^ (32 * p.length) := Nat.lt_of_le_of_lt (Nat.div_le_self _ _) (val_lt hp)
    rw [Nat.mod_eq_of_lt hlt] at hv
    refine Ev.step (f := fun k => big_nat_trim.f k x) (fun k => ?_) (hv ▸ trim_law hdx (by omega))
    simp only [big_nat_shr.l0]
    rw [if_neg (by omega)]
    cases big_nat_trim.f k x <;> rfl
  | succ d ih =>
    intro i x hd hi hx hdx hv
    obtain ⟨pd, hpd, hp1⟩ := hp.nat i
    obtain ⟨pe, hpe, hp2⟩ := hp.nat (i + 1)
    have g1 := val_get hp i
    have g2 := val_get hp (i + 1)
    rw [hpd, Int.toNat_natCast] at g1
    rw [hpe, Int.toNat_natCast] at g2
    have hs1 : 0 < 2 ^ s := Nat.pow_pos (by omega)
    have hs2 : 2 ^ s * 2 ^ (32 - s) = 4294967296 := pow2_split (by omega)
    generalize hX : val p / 2 ^ (32 * i) = X at g1
    have hX2 : val p / 2 ^ (32 * (i + 1)) = X / 4294967296 := by rw [pow32_succ, Nat.mul_comm, ← Nat.div_div_eq_div_mul, hX]
    rw [hX2] at g2
    -- the digit
    have ht : (pd + 4294967296 * pe) / 2 ^ s % 4294967296 = X / 2 ^ s % 4294967296 := by
      have h1 : X % 18446744073709551616 = pd + 4294967296 * pe := by omega
      rw [← h1]
      have h2 : X = 18446744073709551616 * (X / 18446744073709551616) + X % 18446744073709551616 := by omega
      generalize X / 18446744073709551616 = q at h2
      generalize X % 18446744073709551616 = r at h2 ⊢
      have h3 : (18446744073709551616 : Nat) = 2 ^ s * (2 ^ (32 - s) * 4294967296) := by rw [← Nat.mul_assoc, hs2]
      rw [h2, h3, Nat.mul_assoc, Nat.mul_add_div hs1, Nat.mul_comm (2 ^ (32 - s)), Nat.mul_assoc, Nat.mul_add_mod]
    have hnew : val (x ++ [(((pd + 4294967296 * pe) / 2 ^ s % 4294967296 : Nat) : Int)]) = (val p / 2 ^ s) % 2 ^ (32 * (i + 1)) := by
      rw [val_snoc, hx, hv, Int.toNat_natCast, ht, ← hX, Nat.div_div_eq_div_mul, Nat.mul_comm (2 ^ (32 * i)) (2 ^ s), ← Nat.div_div_eq_div_mul, pow32_succ, Nat.mul_comm 4294967296, Nat.mod_mul]
    refine Ev.step (fun k => ?_) (ih (i + 1) _ (by omega) (by omega) (by simp [hx]) (hdx.append (Dg.one (by omega) (by omega))) hnew)
    simp only [big_nat_shr.l0]
    rw [if_pos (by omega), if_pos (by omega), if_pos (by omega), w64_succ (by omega)]
    have hmin' : min (s : Int).toNat IntKind.u64.bits = s := by simp [IntKind.bits]; omega
    by_cases hl : i + 1 < p.length
    · rw [if_pos (by omega), if_pos (by omega), if_pos (by omega), if_pos (by omega), rd_nat, rd_nat, hpd, hpe, u64_of (x := (pd : Int)) (by omega) (by omega), u64_of (x := (pe : Int)) (by omega) (by omega), u64_of (x := (pe : Int) * 4294967296) (by omega) (by omega)]
      have e : bits .or .u64 (pd : Int) ((pe : Int) * 4294967296) = ((pd + 4294967296 * pe : Nat) : Int) := by
        rw [show (pe : Int) * 4294967296 = ((2 ^ 32 * pe : Nat) : Int) by omega, bits_or_u64_nat _ _ (by omega) (by omega), Nat.or_comm, or_add (by omega)]; omega
      unfold shr
      rw [e, hmin', show ((2 : Int) ^ s) = ((2 ^ s : Nat) : Int) by rw [Int.natCast_pow]; rfl, ← Int.natCast_ediv]
      rw [show (((pd + 4294967296 * pe) / 2 ^ s : Nat) : Int) % 4294967296 = (((pd + 4294967296 * pe) / 2 ^ s % 4294967296 : Nat) : Int) from by omega]
    · have hpe0 : pe = 0 := by
        rw [List.getD_eq_getElem?_getD, List.getElem?_eq_none (by omega)] at hpe; simp at hpe; omega
      subst hpe0
      rw [if_neg (by omega), if_pos (by omega), if_pos (by omega), rd_nat, hpd, u64_of (x := (pd : Int)) (by omega) (by omega)]
      unfold shr
      rw [hmin', show ((2 : Int) ^ s) = ((2 ^ s : Nat) : Int) by rw [Int.natCast_pow]; rfl, ← Int.natCast_ediv]
      rw [show ((pd / 2 ^ s : Nat) : Int) % 4294967296 = ((pd / 2 ^ s % 4294967296 : Nat) : Int) from by omega]
      simp only [Nat.mul_zero, Nat.add_zero]
theorem shr_law (a k0 : Nat) (hb : (dig a).length < 35184372088830) (hk : k0 < 18446744073709551616) : Ev (fun k => big_nat_shr.f k (dig a) (k0 : Int)) (dig (a / 2 ^ k0)) := by
  unfold big_nat_shr.f
  have ew : IntKind.u64.wrap (Int.tdiv (k0 : Int) 32) = ((k0 / 32 : Nat) : Int) := by
    rw [Int.tdiv_eq_ediv_of_nonneg (by omega), show ((k0 : Int) / 32) = ((k0 / 32 : Nat) : Int) by omega, u64_of (by omega) (by omega)]
  have em : Int.tmod (k0 : Int) 32 = ((k0 % 32 : Nat) : Int) := by rw [Int.tmod_eq_emod_of_nonneg (by omega)]; omega
  have el : IntKind.u64.wrap ((dig a).length : Int) = ((dig a).length : Int) := u64_of (by omega) (by omega)
  have hk32 : 2 ^ k0 = 2 ^ (32 * (k0 / 32)) * 2 ^ (k0 % 32) := by rw [← Nat.pow_add]; congr 1; omega
  by_cases hle : (dig a).length ≤ k0 / 32
  · have : a / 2 ^ k0 = 0 := by
      apply Nat.div_eq_of_lt
      exact Nat.lt_of_lt_of_le (lt_dig_length a) (Nat.pow_le_pow_right (by omega) (by omega))
    rw [this, dig_zero]
    exact Ev.congr (fun k => by rw [ew, el, if_pos (by omega)]) (Ev.now _)
  · have h := shr_ev ((dig a).drop (k0 / 32)) (k0 % 32) ((dg_dig a).drop _) (by omega) (by rw [List.length_drop]; omega) _ 0 [] rfl (by omega) rfl Dg.nil (by simp [Nat.mod_one])
    rw [val_drop (dg_dig a), val_dig, Nat.div_div_eq_div_mul, ← hk32] at h
    refine Ev.congr (fun k => ?_) h
    rw [ew, el, em, if_neg (by omega), if_pos (by omega), if_pos (by omega), if_pos (by omega), Int.toNat_natCast, Int.toNat_natCast, if_pos (by rw [List.length_drop]; omega)]
    rfl
end Go.Proofs.YthmeocigliephaaGreatDoor.Plain
end
section
namespace Go.Proofs.YthmeocigliephaaGreatDoor.Plain
open Go.Proofs.YthmeocigliephaaGreatDoor.PNa
theorem getD_set_ne (l : List Int) {i j : Nat} (h : i ≠ j) (d : Int) : (l.set i d).getD j 0 = l.getD j 0 := by
  rw [List.getD_eq_getElem?_getD, List.getElem?_set_ne h, ← List.getD_eq_getElem?_getD]
def bl (n : Nat) : Nat := if n = 0 then 0 else n.log2 + 1
theorem bl_pos {n : Nat} (h : n ≠ 0) : bl n = n.log2 + 1 := if_neg h
theorem lt_bl (n : Nat) : n < 2 ^ bl n := by
  by_cases h : n = 0
  · subst h; simp [bl]
  · rw [bl_pos h]; exact Nat.lt_log2_self
theorem le_bl {n : Nat} (h : n ≠ 0) : 2 ^ (bl n - 1) ≤ n := by rw [bl_pos h]; exact Nat.log2_self_le h
theorem bl_le {n k : Nat} : bl n ≤ k ↔ n < 2 ^ k := by
  constructor
  · intro h; exact Nat.lt_of_lt_of_le (lt_bl n) (Nat.pow_le_pow_right (by omega) h)
  · intro h
    by_cases h0 : n = 0
    · subst h0; simp [bl]
    · have := le_bl h0
      have h2 : 2 ^ (bl n - 1) < 2 ^ k := Nat.lt_of_le_of_lt this h
      have := (Nat.pow_lt_pow_iff_right (by omega)).1 h2
      omega
theorem bl_unique {n k : Nat} (h1 : 2 ^ k ≤ n) (h2 : n < 2 ^ (k + 1)) : bl n = k + 1 := by
  have h3 := bl_le.2 h2
  rcases Nat.lt_or_ge k (bl n) with h | h
  · omega
  · have := bl_le.1 h; omega
theorem bl_mul_pow {n : Nat} (h : n ≠ 0) (k : Nat) : bl (n * 2 ^ k) = bl n + k := by
  have h1 := le_bl h
  have h2 := lt_bl n
  have h3 : bl n ≠ 0 := by rw [bl_pos h]; omega
  have e : bl n = bl n - 1 + 1 := by omega
  rw [show bl n + k = (bl n - 1 + k) + 1 by omega]
  apply bl_unique
  · rw [Nat.pow_add]; exact Nat.mul_le_mul_right _ h1
  · rw [show bl n - 1 + k + 1 = bl n + k by omega, Nat.pow_add]; exact Nat.mul_lt_mul_of_pos_right h2 (Nat.pow_pos (by omega))
theorem bitLenAux_eq : ∀ (f n : Nat), n < 2 ^ f → Lib.bitLenAux f n = bl n := by
  intro f
  induction f with
  | zero => intro n h; have : n = 0 := by simp at h; omega
            subst this; rfl
  | succ f ih =>
    intro n h
    by_cases h0 : n = 0
    · subst h0; simp [Lib.bitLenAux, bl]
    · simp only [Lib.bitLenAux]
      rw [if_neg h0, ih _ (by rw [Nat.pow_succ] at h; omega)]
      by_cases h1 : n / 2 = 0
      · have : n = 1 := by omega
        subst this; rfl
      · rw [bl_pos h1, bl_pos h0, Nat.log2_def n, if_pos (by omega)]; omega
theorem bitLen_law (a : Nat) (hb : (dig a).length < 35184372088830) : big_nat_bitLen.f (dig a) = some (bl a : Int) := by
  unfold big_nat_bitLen.f
  by_cases h0 : a = 0
  · subst h0; rw [dig_zero]; rfl
  · have hne := dig_ne h0
    obtain ⟨n, hn⟩ : ∃ n, (dig a).length = n + 1 := ⟨(dig a).length - 1, by have := List.length_pos_iff.2 hne; omega⟩
    obtain ⟨td, htd, ht1⟩ := (dg_dig a).nat n
    have hnz : td ≠ 0 := by
      rcases (nrm_iff (dg_dig a)).1 (nrm_dig a) with h | h
      · exact absurd h hne
      · rw [hn, Nat.add_sub_cancel, htd] at h; omega
    have hv := val_take_drop (dig a) n (by omega)
    have hd := val_drop_succ (dig a) n (by omega)
    rw [List.drop_of_length_le (l := dig a) (i := n + 1) (by omega), htd, val_nil, Nat.mul_zero, Nat.add_zero, Int.toNat_natCast] at hd
    rw [val_dig, hd] at hv
    have hlt := val_lt ((dg_dig a).take n)
    rw [List.length_take, Nat.min_eq_left (by omega)] at hlt
    have hbt : bl a = 32 * n + bl td := by
      have h1 := le_bl hnz
      have h2 := lt_bl td
      have h3 : bl td ≠ 0 := by rw [bl_pos hnz]; omega
      rw [show 32 * n + bl td = (32 * n + (bl td - 1)) + 1 by omega]
      apply bl_unique
      · rw [Nat.pow_add, hv]
        have := Nat.mul_le_mul_left (2 ^ (32 * n)) h1
        omega
      · rw [show 32 * n + (bl td - 1) + 1 = 32 * n + bl td by omega, Nat.pow_add, hv]
        have := Nat.mul_le_mul_left (2 ^ (32 * n)) (show td + 1 ≤ 2 ^ bl td by omega)
        rw [Nat.mul_add] at this
        omega
    have ew : wrap64 (((dig a).length : Int) - 1) = (n : Int) := by rw [hn, w64_of (by omega) (by omega)]; omega
    have hbl : bl td ≤ 32 := bl_le.2 (by omega)
    have hL : bits_Len32.f (td : Int) = some (bl td : Int) := by
      unfold bits_Len32.f
      rw [if_pos (by omega), Int.toNat_natCast, Lib.bitLen, bitLenAux_eq 64 td (by omega)]
    rw [if_neg (by omega), ew, if_pos (by omega), if_pos (by omega), rd_nat, htd, hL, Option.bind_some, w64_of (x := 32 * (n : Int)) (by omega) (by omega), w64_of (by omega) (by omega), hbt]
    exact congrArg some (by omega)
def tz (n : Nat) : Nat := if h : n = 0 then 0 else if n % 2 = 1 then 0 else 1 + tz (n / 2)
termination_by n
decreasing_by omega
theorem tz_zero : tz 0 = 0 := by unfold tz; simp
theorem tz_odd (m : Nat) : tz (2 * m + 1) = 0 := by unfold tz; rw [dif_neg (by omega), if_pos (by omega)]
theorem tz_even {n : Nat} (h : n ≠ 0) : tz (2 * n) = 1 + tz n := by rw [tz, dif_neg (by omega), if_neg (by omega), Nat.mul_div_cancel_left n (by omega)]
theorem tz_unique (t m : Nat) : tz (2 ^ t * (2 * m + 1)) = t := by
  induction t with
  | zero => simp [tz_odd]
  | succ t ih => rw [Nat.pow_succ, Nat.mul_comm (2 ^ t) 2, Nat.mul_assoc, tz_even (by have := Nat.mul_pos (Nat.pow_pos (n := t) (show 0 < 2 by omega)) (show 0 < 2 * m + 1 by omega); omega), ih]; omega
theorem tz_spec {n : Nat} (h : n ≠ 0) : ∃ m, n = 2 ^ tz n * (2 * m + 1) := by
  induction n using Nat.strongRecOn with
  | ind n ih =>
    by_cases h1 : n % 2 = 1
    · exact ⟨n / 2, by rw [show n = 2 * (n / 2) + 1 by omega, tz_odd]; omega⟩
    · obtain ⟨m, hm⟩ := ih (n / 2) (by omega) (by omega)
      refine ⟨m, ?_⟩
      have e : n = 2 * (n / 2) := by omega
      rw [e, tz_even (by omega), Nat.pow_add, Nat.pow_one, Nat.mul_assoc, ← hm]
theorem tz_le {n : Nat} (h : n ≠ 0) : 2 ^ tz n ≤ n := by
  obtain ⟨m, hm⟩ := tz_spec h
  rw [Nat.mul_add] at hm; omega
theorem zeros_ev (p : List Int) (hp : Dg p) (hv : val p ≠ 0) (hb : p.length < 35184372088830) :
    ∀ (d i : Nat), d = p.length - i → i ≤ p.length → val (p.take i) = 0 → Ev (fun k => big_nat_zeros.l0 k p (p.length : Int) (i : Int)) (tz (val p) : Int) := by
  intro d
  induction d with
  | zero =>
    intro i hd hi h0
    rw [List.take_of_length_le (by omega)] at h0
    exact absurd h0 hv
  | succ d ih =>
    intro i hd hi h0
    obtain ⟨pd, hpd, hp1⟩ := hp.nat i
    by_cases h : pd = 0
    · subst h
      have := val_take_succ' p i
      rw [hpd, h0] at this
      refine Ev.step (fun k => ?_) (ih (i + 1) (by omega) (by omega) (by simpa using this))
      simp only [big_nat_zeros.l0]
      rw [if_pos (by omega), if_pos (by omega), if_pos (by omega), rd_nat, hpd, if_pos (by omega), w64_succ (by omega)]
    · have hvd := val_take_drop p i (by omega)
      have hds := val_drop_succ p i (by omega)
      rw [hpd, Int.toNat_natCast] at hds
      rw [h0, Nat.zero_add, hds] at hvd
      obtain ⟨m, hm, hlt⟩ := Lib.ctzFrom_spec 32 pd (by omega) (by omega)
      have hodd : ∃ m', pd + 4294967296 * val (p.drop (i + 1)) = 2 ^ Lib.ctzFrom 32 pd * (2 * m' + 1) := by
        generalize Lib.ctzFrom 32 pd = t at hm hlt
        refine ⟨m + 2 ^ (31 - t) * val (p.drop (i + 1)), ?_⟩
        have : (4294967296 : Nat) = 2 ^ t * (2 * 2 ^ (31 - t)) := by
          rw [← Nat.pow_succ', ← Nat.pow_add, show t + (31 - t).succ = 32 by omega]
        rw [hm, this]
        simp only [Nat.mul_add, Nat.mul_assoc, Nat.mul_one]
        omega
      obtain ⟨m', hm'⟩ := hodd
      have htz : tz (val p) = 32 * i + Lib.ctzFrom 32 pd := by
        rw [hvd, hm', ← Nat.mul_assoc, ← Nat.pow_add, tz_unique]
      have hT : bits_TrailingZeros32.f (pd : Int) = some (Lib.ctzFrom 32 pd : Int) := by
        unfold bits_TrailingZeros32.f
        rw [if_pos (by omega), Int.toNat_natCast]
        unfold Lib.ctz
        rw [if_neg h]
      refine Ev.step (f := fun _ => some (tz (val p) : Int)) (fun k => ?_) (Ev.now _)
      simp only [big_nat_zeros.l0]
      rw [if_pos (by omega), if_pos (by omega), if_pos (by omega), rd_nat, hpd, if_neg (by omega), hT, Option.bind_some, w64_of (x := 32 * (i : Int)) (by omega) (by omega), w64_of (by omega) (by omega), u64_of (by omega) (by omega), htz]
      congr 1
theorem zeros_law (a : Nat) (hb : (dig a).length < 35184372088830) : Ev (fun k => big_nat_zeros.f k (dig a)) (tz a : Int) := by
  unfold big_nat_zeros.f
  by_cases h0 : a = 0
  · subst h0
    rw [dig_zero, tz_zero]
    exact Ev.step (f := fun _ => some 0) (fun k => by simp [big_nat_zeros.l0]) (Ev.now _)
  · have h := zeros_ev (dig a) (dg_dig a) (by rw [val_dig]; exact h0) hb _ 0 rfl (by omega) (by simp)
    rw [val_dig] at h
    exact h
end Go.Proofs.YthmeocigliephaaGreatDoor.Plain
end
section
namespace Go.Proofs.YthmeocigliephaaGreatDoor.Big
open Go.Proofs.YthmeocigliephaaGreatDoor.PNa Go.Proofs.YthmeocigliephaaGreatDoor.Plain
abbrev WordsAt (w : World) (n : Nat) (A : Option Addr) (c : Nat) : Prop := DigS w (dig n) A c
def MadeN (n : Nat) (w : World) (e : Ending) (w' : World) : Prop := ∃ A c, e = .returned (.slice A (dig n).length c) ∧ DigS w' (dig n) A c ∧ Below w.heap.size w w'
theorem madeN_V {n : Nat} {w : World} {ok : Nat → Prop} {e : Ending} {w' : World} (h : ∃ v0_ : Value, e = .returned (v0_) ∧ Kd.V (Kd.int .u32) 83 w' w.heap.size ok v0_ (dig n) ∧ Below w.heap.size w w') : MadeN n w e w' := by
  obtain ⟨v, rfl, hv, hb⟩ := h
  obtain ⟨A, c, rfl, hd⟩ := digs_of_V hv
  exact ⟨A, c, rfl, hd, hb⟩
theorem madeN_R {n : Nat} {w : World} {ok : Nat → Prop} {e : Ending} {w' : World} (h : ∃ v0_ : Value, e = .returned (v0_) ∧ Kd.R (Kd.int .u32) 83 w' w.heap.size ok v0_ (dig n) ∧ Below w.heap.size w w') : MadeN n w e w' := by
  obtain ⟨v, rfl, hv, hb⟩ := h
  obtain ⟨A, c, rfl, hd⟩ := digs_of_R hv
  exact ⟨A, c, rfl, hd, hb⟩
def Short (n : Nat) : Prop := (dig n).length < 17592186044415
theorem Short.of {n k : Nat} (h : n < 2 ^ (32 * k)) (hk : k < 17592186044415) : Short n := by
  have := dig_length_le h
  unfold Short; omega
theorem Short.mono {n m : Nat} (h : Short n) (hm : m ≤ n) : Short m := by
  have := dig_length_mono hm
  unfold Short at *; omega
section
variable {w : World} {a b : Nat} {A B : Option Addr} {c d : Nat}
theorem trim_nat (l : List Int) (h : DigS w l A c) (hd : Dg l) (hl : l.length < 17592186044415) : Calls Tryz.prog 140 #[.slice A l.length c] w (MadeN (val l) w) := by
  obtain ⟨k, hk⟩ := (trim_law hd (by omega)).rounds
  exact (big_nat_trim.calls k (fun _ => True) A c l _ w ⟨A, c, rfl, h.cap, fun W' hW => (Kd.heap_int .u32).C (fun k hk => hW k trivial hk) h.rd⟩ hk).mono fun e w' h => madeN_V h
theorem small_nat (hx : a < 18446744073709551616) : Calls Tryz.prog 138 #[.int .u64 a] w (MadeN a w) := by
  obtain ⟨k, hk⟩ := (small_law a hx).rounds
  exact (big_small.calls k _ _ w hk).mono fun e w' h => madeN_V h
theorem shl_nat (h : WordsAt w a A c) (k : Nat) (hs : Short a) (hk : k < 562949953421312) : Calls Tryz.prog 150 #[.slice A (dig a).length c, .int .u64 k] w (MadeN (a * 2 ^ k) w) := by
  unfold Short at hs
  obtain ⟨k0, hk0⟩ := (shl_law a k (by omega)).rounds
  exact (big_nat_shl.calls k0 A c _ _ _ w h.rd h.cap hk0).mono fun e w' h => madeN_V h
theorem shr_nat (h : WordsAt w a A c) (k : Nat) (hs : Short a) (hk : k < 18446744073709551616) : Calls Tryz.prog 149 #[.slice A (dig a).length c, .int .u64 k] w (MadeN (a / 2 ^ k) w) := by
  unfold Short at hs
  obtain ⟨k0, hk0⟩ := (shr_law a k (by omega) hk).rounds
  exact (big_nat_shr.calls k0 A c _ _ _ w h.rd h.cap hk0).mono fun e w' h => madeN_V h
theorem add_nat (h : WordsAt w a A c) (h2 : WordsAt w b B d) (hs : Short a) (hs2 : Short b) : Calls Tryz.prog 152 #[.slice A (dig a).length c, .slice B (dig b).length d] w (MadeN (a + b) w) := by
  unfold Short at hs hs2
  by_cases hl : (dig a).length < (dig b).length
  · obtain ⟨k0, hk0⟩ := (addd_law a b hl (by omega)).rounds
    exact (PNd.big_nat_add.calls k0 A c _ B d _ _ w h.rd h.cap h2.rd h2.cap hk0).mono fun e w' h => madeN_R h
  · obtain ⟨k0, hk0⟩ := (addc_law a b (by omega) (by omega)).rounds
    exact (PNc.big_nat_add.calls k0 A c _ B d _ _ w h.rd h.cap h2.rd h2.cap hk0).mono fun e w' h => madeN_R h
theorem sub_nat (h : WordsAt w a A c) (h2 : WordsAt w b B d) (hs : Short a) (hle : b ≤ a) : Calls Tryz.prog 154 #[.slice A (dig a).length c, .slice B (dig b).length d] w (MadeN (a - b) w) := by
  unfold Short at hs
  obtain ⟨k0, hk0⟩ := (sub_law a b hle (by omega)).rounds
  exact (big_nat_sub.calls k0 A c _ B d _ _ w h.rd h.cap h2.rd h2.cap hk0).mono fun e w' h => madeN_V h
theorem cmp_nat (h : WordsAt w a A c) (h2 : WordsAt w b B d) (hs : Short a) : Calls Tryz.prog 151 #[.slice A (dig a).length c, .slice B (dig b).length d] w fun e w' => e = .returned (.int .i64 (cmpN a b)) ∧ Drawn0 w w' := by
  unfold Short at hs
  obtain ⟨k0, hk0⟩ := (cmp_law a b (by omega)).rounds
  exact big_nat_cmp.calls k0 A c _ B d _ _ w h.rd h.cap h2.rd h2.cap hk0
theorem bitLen_nat (h : WordsAt w a A c) (hs : Short a) : Calls Tryz.prog 141 #[.slice A (dig a).length c] w fun e w' => e = .returned (.int .i64 (bl a)) ∧ Drawn0 w w' := by
  unfold Short at hs
  exact big_nat_bitLen.calls A c _ _ w h.rd h.cap (bitLen_law a (by omega))
theorem zeros_nat (h : WordsAt w a A c) (hs : Short a) (hL : Laid w) : Calls Tryz.prog 148 #[.slice A (dig a).length c] w fun e w' => e = .returned (.int .u64 (tz a)) ∧ Drawn0 w w' := by
  unfold Short at hs
  obtain ⟨k0, hk0⟩ := (zeros_law a (by omega)).rounds
  exact big_nat_zeros.calls k0 A c _ _ w h.rd h.cap hk0 hL
end
def IntV (w : World) (b : Nat) (v : Int) : Prop := ∃ A c, IntB w b (decide (v < 0)) (dig v.natAbs) A c
def Gave (z : Nat) (v : Int) (w : World) (e : Ending) (w' : World) : Prop := e = .returned (.pointer (some ⟨z, 0, none⟩)) ∧ Only z w w' ∧ IntV w' z v
theorem IntV.only {g b : Nat} {w w' : World} {v : Int} (h : IntV w b v) (k : Only g w w') (hz : ZB w g ∨ w.heap.size ≤ g) (hne : b ≠ g) : IntV w' b v := by
  obtain ⟨A, c, h⟩ := h; exact ⟨A, c, h.only k hz hne⟩
theorem IntV.below {b : Nat} {w w' : World} {v : Int} (h : IntV w b v) (k : Below w.heap.size w w') : IntV w' b v := by
  obtain ⟨A, c, h⟩ := h; exact ⟨A, c, h.below k⟩
theorem IntV.z {w : World} {b : Nat} {v : Int} (h : IntV w b v) : ZB w b := by obtain ⟨A, c, h⟩ := h; exact h.z
theorem IntV.lt {w : World} {b : Nat} {v : Int} (h : IntV w b v) : b < w.heap.size := h.z.lt
theorem dig_pos_iff (n : Nat) : 0 < (dig n).length ↔ n ≠ 0 := by
  constructor
  · rintro h rfl; rw [dig_zero] at h; exact absurd h (by decide)
  · intro h; exact List.length_pos_iff.2 (dig_ne h)
theorem intV_of {w : World} {b n : Nat} {neg : Bool} {A : Option Addr} {c : Nat} {v : Int} (h : IntB w b (neg && decide (0 < (dig n).length)) (dig n) A c) (hv : v = if neg then -(n : Int) else n) : IntV w b v := by
  have e1 : v.natAbs = n := by rw [hv]; split <;> simp
  have e2 : (neg && decide (0 < (dig n).length)) = decide (v < 0) := by
    rw [hv]
    by_cases h0 : n = 0
    · subst h0; rw [dig_zero]; cases neg <;> simp
    · have := (dig_pos_iff n).2 h0
      cases neg <;> simp [this] <;> omega
  refine ⟨A, c, ?_⟩
  rw [e1, ← e2]; exact h
end Go.Proofs.YthmeocigliephaaGreatDoor.Big
end
section
namespace Go.Proofs.YthmeocigliephaaGreatDoor.Big
open Go.Proofs.YthmeocigliephaaGreatDoor.PNa Go.Proofs.YthmeocigliephaaGreatDoor.Plain
theorem lsh_val (v : Int) (k : Nat) : v * 2 ^ k = if decide (v < 0) = true then -((v.natAbs * 2 ^ k : Nat) : Int) else ((v.natAbs * 2 ^ k : Nat) : Int) := by
  rw [Int.natCast_mul, Int.natCast_pow]
  by_cases h : v < 0
  · rw [if_pos (by simpa using h), ← Int.neg_mul]; congr 1; omega
  · rw [if_neg (by simpa using h)]; congr 1; omega
theorem Lsh_calls (z x k : Nat) (v : Int) (w : World) (hz : ZB w z) (hx : IntV w x v) (hs : Short v.natAbs) (hk : k < 562949953421312) :
    Calls Tryz.prog 136 #[.pointer (some ⟨z, 0, none⟩), .pointer (some ⟨x, 0, none⟩), .int .u64 k] w (Gave z (v * 2 ^ k) w) := by
  obtain ⟨A, c, hx⟩ := hx
  have c0 := hx.c0
  have c1 := hx.c1
  have lx : x < w.heap.size := hx.lt
  have HZ := asd hz
  have HX := asd hx
  have HS := asd hs
  have HK := asd hk
  clear hz hx hs hk
  go_enter Tryz.func136, Tryz.ntmps136
  go_wp2_with fail
  go_region_with ((first | (go_at_call 150; refine (shl_nat (a := v.natAbs) (HX.out.d.below (by exact (Below.refl _ _).drew)) k HS.out HK.out).mono ?_; rintro e w1 ⟨A1, d1, rfl, h1, hb⟩; replace h1 := asd h1; have c0' : w1.cell? ⟨x, 0, none⟩ = some (.bool (decide (v < 0))) := (hb.cell (p := ⟨x, 0, none⟩) (by simpa using lx)).trans c0; replace hb := asd hb) | (go_at_call 128; refine (put_calls' z (decide (v < 0)) _ _ _ w _ HZ.out h1.out (Below.trans ((Below.refl _ _).drew) hb.out)).mono ?_; rintro e w2 ⟨rfl, h3, h4⟩; replace h3 := asd h3; replace h4 := asd h4)))
  all_goals
    go_wp2
    go_ret
    exact ⟨rfl, h3.out, intV_of h4.out (lsh_val v k)⟩
end Go.Proofs.YthmeocigliephaaGreatDoor.Big
end
section
namespace Go.Proofs.YthmeocigliephaaGreatDoor.Big
open Go.Proofs.YthmeocigliephaaGreatDoor.PNa Go.Proofs.YthmeocigliephaaGreatDoor.Plain
theorem sign_any (x : Nat) (v s : Int) (w : World) (hx : IntV w x v) (hs : v.sign = s) :
    Calls Tryz.prog 130 #[.pointer (some ⟨x, 0, none⟩)] w fun e w' => e = .returned (.int .i64 s) ∧ w' = w := by
  obtain ⟨A, c, hx⟩ := hx
  have c0 := hx.c0
  have c1 := hx.c1
  subst hs
  rcases Int.lt_trichotomy v 0 with h | h | h
  · have e1 : decide (v < 0) = true := by simpa using h
    have hne : (((dig v.natAbs).length : Int) == 0) = false := by
      have := (dig_pos_iff v.natAbs).2 (by omega); simp; exact dig_ne (by omega)
    rw [e1] at c0
    rw [Int.sign_eq_neg_one_of_neg h]
    clear hx e1 h
    go_enter Tryz.func130, Tryz.ntmps130
    go_wp2
    go_ret
    exact ⟨rfl, rfl⟩
  · subst h
    rw [show (0 : Int).natAbs = 0 from rfl, dig_zero] at c1
    clear hx c0
    go_enter Tryz.func130, Tryz.ntmps130
    go_wp2
    go_ret
    exact ⟨rfl, rfl⟩
  · have e1 : decide (v < 0) = false := by simp; omega
    have hne : (((dig v.natAbs).length : Int) == 0) = false := by
      have := (dig_pos_iff v.natAbs).2 (by omega); simp; exact dig_ne (by omega)
    rw [e1] at c0
    rw [Int.sign_eq_one_of_pos h]
    clear hx e1 h
    go_enter Tryz.func130, Tryz.ntmps130
    go_wp2
    go_ret
    exact ⟨rfl, rfl⟩
theorem bitLen_any (x : Nat) (v : Int) (w : World) (hx : IntV w x v) (hs : Short v.natAbs) :
    Calls Tryz.prog 126 #[.pointer (some ⟨x, 0, none⟩)] w fun e w' => e = .returned (.int .i64 (bl v.natAbs)) ∧ Drawn0 w w' := by
  obtain ⟨A, c, hx⟩ := hx
  have c1 := hx.c1
  have HX := asd hx
  have HS := asd hs
  clear hx hs
  go_enter Tryz.func126, Tryz.ntmps126
  go_wp2_with (go_at_call 141; refine (bitLen_nat HX.out.d HS.out).mono ?_; rintro e w1 ⟨rfl, h1⟩; replace h1 := asd h1)
  go_ret
  exact ⟨rfl, h1.out⟩
theorem zeros_any (x : Nat) (v : Int) (w : World) (hx : IntV w x v) (hs : Short v.natAbs) (hL : Laid w) :
    Calls Tryz.prog 131 #[.pointer (some ⟨x, 0, none⟩)] w fun e w' => e = .returned (.int .u64 (tz v.natAbs)) ∧ Drawn0 w w' := by
  obtain ⟨A, c, hx⟩ := hx
  have c1 := hx.c1
  have HX := asd hx
  have HS := asd hs
  have HL := asd hL
  clear hx hs hL
  go_enter Tryz.func131, Tryz.ntmps131
  go_wp2_with (go_at_call 148; refine (zeros_nat HX.out.d HS.out HL.out).mono ?_; rintro e w1 ⟨rfl, h1⟩; replace h1 := asd h1)
  go_ret
  exact ⟨rfl, h1.out⟩
def Copied (l : List Int) (w : World) (e : Ending) (w' : World) : Prop := ∃ u, e = .returned u ∧ Kd.R (Kd.int .u32) 83 w' w.heap.size (fun _ => True) u l ∧ Below w.heap.size w w'
theorem words_any (x : Nat) (v : Int) (w : World) (hx : IntV w x v) (hs : Short v.natAbs) :
    Calls Tryz.prog 133 #[.pointer (some ⟨x, 0, none⟩)] w (Copied (dig v.natAbs) w) := by
  obtain ⟨A, c, hx⟩ := hx
  have c1 := hx.c1
  have HX := asd hx
  unfold Short at hs
  have HS := asd hs
  clear hx hs
  go_enter Tryz.func133, Tryz.ntmps133
  go_wp2_with (go_at_call 153; refine (cloneN A c _ _ HX.out.d.rd (by have := HS.out; omega)).mono ?_; rintro e w1 ⟨u, rfl, h1, h2⟩; replace h1 := asd h1; replace h2 := asd h2)
  go_ret
  exact ⟨_, rfl, h1.out, h2.out⟩
theorem setUint64_any (z x : Nat) (w : World) (hz : ZB w z) (hx : x < 18446744073709551616) :
    Calls Tryz.prog 123 #[.pointer (some ⟨z, 0, none⟩), .int .u64 x] w (Gave z x w) := by
  have HZ := asd hz
  have HX := asd hx
  clear hz hx
  go_enter Tryz.func123, Tryz.ntmps123
  go_wp2_with (first | (go_at_call 138; refine (small_nat HX.out).mono ?_; rintro e w1 ⟨A1, d1, rfl, h1, hb⟩; replace h1 := asd h1; replace hb := asd hb) | (go_at_call 128; refine (put_calls' z false _ _ _ w _ HZ.out h1.out hb.out).mono ?_; rintro e w2 ⟨rfl, h3, h4⟩; replace h3 := asd h3; replace h4 := asd h4))
  go_ret
  exact ⟨rfl, h3.out, intV_of (neg := false) h4.out rfl⟩
theorem setWords_any (z : Nat) (l : List Int) (A : Option Addr) (c : Nat) (w : World) (hz : ZB w z) (hd : DigS w l A c) (hg : Dg l) (hl : l.length < 17592186044415) :
    Calls Tryz.prog 125 #[.pointer (some ⟨z, 0, none⟩), .slice A l.length c] w (Gave z (val l) w) := by
  have HZ := asd hz
  have HD := asd hd
  have HG := asd hg
  have HL := asd hl
  clear hz hd hg hl
  go_enter Tryz.func125, Tryz.ntmps125
  go_wp2_with (first
    | (go_at_call 139; refine (cloneW A c l _ HD.out.rd (by have := HL.out; omega)).mono ?_; rintro e w1 ⟨u, rfl, h1, h2⟩; obtain ⟨A1, c1, rfl, hd1⟩ := digs_of_R h1; clear h1; replace hd1 := asd hd1; replace h2 := asd h2)
    | (go_at_call 140; refine (trim_nat l hd1.out HG.out HL.out).mono ?_; rintro e w2 ⟨A2, d2, rfl, h3, hb⟩; replace h3 := asd h3; replace hb := asd hb)
    | (go_at_call 128; refine (put_calls' z false _ _ _ w _ HZ.out h3.out (below_then h2.out h2.out.size hb.out)).mono ?_; rintro e w2 ⟨rfl, h5, h4⟩; replace h5 := asd h5; replace h4 := asd h4))
  go_ret
  exact ⟨rfl, h5.out, intV_of (neg := false) h4.out rfl⟩
theorem neg_any (z x : Nat) (v : Int) (w : World) (hz : ZB w z) (hx : IntV w x v) :
    Calls Tryz.prog 124 #[.pointer (some ⟨z, 0, none⟩), .pointer (some ⟨x, 0, none⟩)] w (Gave z (-v) w) := by
  obtain ⟨A, c, hx⟩ := hx
  refine (Neg_calls z x _ _ A c w hz hx).mono fun e w' ⟨h1, h2, h3⟩ => ⟨h1, h2, intV_of h3 ?_⟩
  by_cases h : v < 0
  · simp [h]; omega
  · simp [h]; omega
theorem abs_any (z x : Nat) (v : Int) (w : World) (hz : ZB w z) (hx : IntV w x v) :
    Calls Tryz.prog 95 #[.pointer (some ⟨z, 0, none⟩), .pointer (some ⟨x, 0, none⟩)] w (Gave z v.natAbs w) := by
  obtain ⟨A, c, hx⟩ := hx
  exact (Abs_calls z x _ _ A c w hz hx).mono fun e w' ⟨h1, h2, h3⟩ => ⟨h1, h2, intV_of (neg := false) (by simpa using h3) rfl⟩
theorem rsh_any (z x k : Nat) (n : Nat) (w : World) (hz : ZB w z) (hx : IntV w x n) (hs : Short n) (hk : k < 18446744073709551616) :
    Calls Tryz.prog 132 #[.pointer (some ⟨z, 0, none⟩), .pointer (some ⟨x, 0, none⟩), .int .u64 k] w (Gave z ((n / 2 ^ k : Nat) : Int) w) := by
  obtain ⟨A, c, hx⟩ := hx
  rw [Int.natAbs_natCast, show decide ((n : Int) < 0) = false by simp] at hx
  have c0 := hx.c0
  have c1 := hx.c1
  have lx : x < w.heap.size := hx.lt
  have HZ := asd hz
  have HX := asd hx
  have HS := asd hs
  have HK := asd hk
  clear hz hx hs hk
  go_enter Tryz.func132, Tryz.ntmps132
  go_wp2_with ((go_at_call 149; refine (shr_nat (a := n) HX.out.d k HS.out HK.out).mono ?_; rintro e w1 ⟨A1, d1, rfl, h1, hb⟩; replace h1 := asd h1; have c0' : w1.cell? ⟨x, 0, none⟩ = some (.bool false) := (hb.cell (p := ⟨x, 0, none⟩) lx).trans c0; replace hb := asd hb))
  go_quiet (fail)
  go_wp2_with (go_at_call 128; refine (put_calls' z false _ _ _ w _ HZ.out (h1.out.below (pw_below_drewN (Below.refl _ _) nq)) (pw_below_drewN hb.out nq)).mono ?_; rintro e w2 ⟨rfl, h3, h4⟩; replace h3 := asd h3; replace h4 := asd h4)
  go_ret
  exact ⟨rfl, h3.out, intV_of (neg := false) h4.out rfl⟩
end Go.Proofs.YthmeocigliephaaGreatDoor.Big
end
section
namespace Go.Proofs.YthmeocigliephaaGreatDoor.Big
open Go.Proofs.YthmeocigliephaaGreatDoor.PNa Go.Proofs.YthmeocigliephaaGreatDoor.Plain
theorem below_post {w w1 w2 : World} (k : Below w1.heap.size w1 w2) (h : Below w.heap.size w w1) : Below w.heap.size w w2 := below_then h h.size k
theorem cmp_nat' {w : World} {a b : Nat} {A B : Option Addr} {c d : Nat} (r : Int) (h : WordsAt w a A c) (h2 : WordsAt w b B d) (hs : Short a) (hr : cmpN a b = r) : Calls Tryz.prog 151 #[.slice A (dig a).length c, .slice B (dig b).length d] w fun e w' => e = .returned (.int .i64 r) ∧ Drawn0 w w' := hr ▸ cmp_nat h h2 hs
section
variable (z x : Nat) (v : Int) (neg : Bool) (b : Nat) (B : Option Addr) (d : Nat) (w : World) (hz : ZB w z) (hx : IntV w x v) (hs : Short v.natAbs) (hb : WordsAt w b B d) (hsb : Short b)
include hz hx hs hb hsb
theorem sum_like (he : decide (v < 0) = neg) :
    Calls Tryz.prog 137 #[.pointer (some ⟨z, 0, none⟩), .pointer (some ⟨x, 0, none⟩), .bool neg, .slice B (dig b).length d] w (Gave z (if neg then -((v.natAbs + b : Nat) : Int) else ((v.natAbs + b : Nat) : Int)) w) := by
  obtain ⟨A, c, hx⟩ := hx
  rw [he] at hx
  have c0 := hx.c0
  have c1 := hx.c1
  have HZ := asd hz
  have HX := asd hx
  have HS := asd hs
  have HB := asd hb
  have HSB := asd hsb
  clear hz hx hs hb hsb he
  cases neg
  all_goals
    go_enter Tryz.func137, Tryz.ntmps137
    go_wp2_with (first
      | (go_at_call 152; refine (add_nat HX.out.d HB.out HS.out HSB.out).mono ?_; rintro e w1 ⟨A1, d1, rfl, h1, hb⟩; replace h1 := asd h1; replace hb := asd hb)
      | (go_at_call 128; refine (put_calls' z _ _ _ _ w _ HZ.out h1.out hb.out).mono ?_; rintro e w2 ⟨rfl, h3, h4⟩; replace h3 := asd h3; replace h4 := asd h4))
    go_ret
    exact ⟨rfl, h3.out, intV_of h4.out rfl⟩
theorem sum_first (he : decide (v < 0) = !neg) (hle : b ≤ v.natAbs) :
    Calls Tryz.prog 137 #[.pointer (some ⟨z, 0, none⟩), .pointer (some ⟨x, 0, none⟩), .bool neg, .slice B (dig b).length d] w (Gave z (if !neg then -((v.natAbs - b : Nat) : Int) else ((v.natAbs - b : Nat) : Int)) w) := by
  obtain ⟨A, c, hx⟩ := hx
  rw [he] at hx
  have c0 := hx.c0
  have c1 := hx.c1
  have lx : x < w.heap.size := hx.lt
  obtain ⟨r, hr, hr0⟩ : ∃ r : Int, cmpN v.natAbs b = r ∧ (r = 0 ∨ r = 1) := by
    rcases Nat.lt_or_eq_of_le hle with h | h
    · exact ⟨1, cmpN_gt h, .inr rfl⟩
    · exact ⟨0, by rw [h]; exact cmpN_eq _, .inl rfl⟩
  have HZ := asd hz
  have HX := asd hx
  have HS := asd hs
  have HB := asd hb
  have HSB := asd hsb
  have HR := asd hr
  have HL := asd hle
  clear hz hx hs hb hsb he hr hle
  cases neg <;> rcases hr0 with rfl | rfl
  all_goals
    go_enter Tryz.func137, Tryz.ntmps137
    go_wp2_with (first
      | (go_at_call 151; refine (cmp_nat' _ HX.out.d HB.out HS.out HR.out).mono ?_; rintro e w0 ⟨rfl, ⟨m0, rfl⟩⟩))
    go_region_with ((first
      | (go_at_call 154; refine (sub_nat (a := v.natAbs) (b := b) (HX.out.d.below (by first | exact Below.refl _ _ | exact (Below.refl _ _).drew | exact pw_below_drewN (Below.refl _ _) _ | exact (pw_below_drewN (Below.refl _ _) _).drew)) (HB.out.below (by first | exact Below.refl _ _ | exact (Below.refl _ _).drew | exact pw_below_drewN (Below.refl _ _) _ | exact (pw_below_drewN (Below.refl _ _) _).drew)) HS.out HL.out).mono ?_; rintro e w1 ⟨A1, d1, rfl, h1, hb⟩; replace h1 := asd h1; have c0' : w1.cell? ⟨x, 0, none⟩ = _ := (hb.cell (p := ⟨x, 0, none⟩) lx).trans c0; replace hb := asd hb)
      | (go_at_call 128; refine (put_calls' z _ _ _ _ w _ HZ.out h1.out (below_post hb.out (by first | exact Below.refl _ _ | exact (Below.refl _ _).drew | exact pw_below_drewN (Below.refl _ _) _ | exact (pw_below_drewN (Below.refl _ _) _).drew))).mono ?_; rintro e w2 ⟨rfl, h3, h4⟩; replace h3 := asd h3; replace h4 := asd h4)))
    all_goals
      go_wp2
      go_ret
      exact ⟨rfl, h3.out, intV_of h4.out rfl⟩
theorem sum_second (he : decide (v < 0) = !neg) (hlt : v.natAbs < b) :
    Calls Tryz.prog 137 #[.pointer (some ⟨z, 0, none⟩), .pointer (some ⟨x, 0, none⟩), .bool neg, .slice B (dig b).length d] w (Gave z (if neg then -((b - v.natAbs : Nat) : Int) else ((b - v.natAbs : Nat) : Int)) w) := by
  obtain ⟨A, c, hx⟩ := hx
  rw [he] at hx
  have c0 := hx.c0
  have c1 := hx.c1
  have hr := cmpN_lt hlt
  have HZ := asd hz
  have HX := asd hx
  have HS := asd hs
  have HB := asd hb
  have HSB := asd hsb
  have HR := asd hr
  have HL := asd (Nat.le_of_lt hlt)
  clear hz hx hs hb hsb he hr hlt
  cases neg
  all_goals
    go_enter Tryz.func137, Tryz.ntmps137
    go_wp2_with (first
      | (go_at_call 151; refine (cmp_nat' _ HX.out.d HB.out HS.out HR.out).mono ?_; rintro e w0 ⟨rfl, ⟨m0, rfl⟩⟩)
      | (go_at_call 154; refine (sub_nat (a := b) (b := v.natAbs) (HB.out.below (pw_below_drewN (Below.refl _ _) _)) (HX.out.d.below (pw_below_drewN (Below.refl _ _) _)) HSB.out HL.out).mono ?_; rintro e w1 ⟨A1, d1, rfl, h1, hb⟩; replace h1 := asd h1; replace hb := asd hb)
      | (go_at_call 128; refine (put_calls' z _ _ _ _ w _ HZ.out h1.out (below_post hb.out (pw_below_drewN (Below.refl _ _) _))).mono ?_; rintro e w2 ⟨rfl, h3, h4⟩; replace h3 := asd h3; replace h4 := asd h4))
    go_ret
    exact ⟨rfl, h3.out, intV_of h4.out rfl⟩
theorem sum_any : Calls Tryz.prog 137 #[.pointer (some ⟨z, 0, none⟩), .pointer (some ⟨x, 0, none⟩), .bool neg, .slice B (dig b).length d] w (Gave z (v + if neg then -(b : Int) else b) w) := by
  by_cases he : decide (v < 0) = neg
  · have h := sum_like z x v neg b B d w hz hx hs hb hsb he
    have e : (v + if neg then -(b : Int) else b) = (if neg then -((v.natAbs + b : Nat) : Int) else ((v.natAbs + b : Nat) : Int)) := by
      subst he
      by_cases hv : v < 0
      · simp [hv]; omega
      · simp [hv]; omega
    rw [e]; exact h
  · have he' : decide (v < 0) = !neg := by cases neg <;> simp_all
    by_cases hle : b ≤ v.natAbs
    · have h := sum_first z x v neg b B d w hz hx hs hb hsb he' hle
      have e : (v + if neg then -(b : Int) else b) = (if !neg then -((v.natAbs - b : Nat) : Int) else ((v.natAbs - b : Nat) : Int)) := by
        cases neg <;> simp at he' ⊢ <;> omega
      rw [e]; exact h
    · have h := sum_second z x v neg b B d w hz hx hs hb hsb he' (by omega)
      have e : (v + if neg then -(b : Int) else b) = (if neg then -((b - v.natAbs : Nat) : Int) else ((b - v.natAbs : Nat) : Int)) := by
        cases neg <;> simp at he' ⊢ <;> omega
      rw [e]; exact h
end
end Go.Proofs.YthmeocigliephaaGreatDoor.Big
end
section
namespace Go.Proofs.YthmeocigliephaaGreatDoor.Big
open Go.Proofs.YthmeocigliephaaGreatDoor.PNa Go.Proofs.YthmeocigliephaaGreatDoor.Plain
theorem sum_any' (z x : Nat) (v : Int) (neg : Bool) (b : Nat) (B : Option Addr) (d : Nat) (w0 w : World) (hz : ZB w0 z) (hx : IntV w0 x v) (hs : Short v.natAbs) (hb : WordsAt w0 b B d) (hsb : Short b) (hw : Below w0.heap.size w0 w) :
    Calls Tryz.prog 137 #[.pointer (some ⟨z, 0, none⟩), .pointer (some ⟨x, 0, none⟩), .bool neg, .slice B (dig b).length d] w (Gave z (v + if neg then -(b : Int) else b) w0) :=
  (sum_any z x v neg b B d w (hz.below hw) (hx.below hw) hs (hb.below hw) hsb).mono fun e w' ⟨h1, h2, h3⟩ => ⟨h1, only_trans (only_below hw) h2, h3⟩
section
variable (z x y : Nat) (u v : Int) (w : World) (hz : ZB w z) (hx : IntV w x u) (hy : IntV w y v) (hs : Short u.natAbs) (ht : Short v.natAbs)
include hz hx hy hs ht
theorem add_any : Calls Tryz.prog 107 #[.pointer (some ⟨z, 0, none⟩), .pointer (some ⟨x, 0, none⟩), .pointer (some ⟨y, 0, none⟩)] w (Gave z (u + v) w) := by
  obtain ⟨B, d, hy⟩ := hy
  have c0 := hy.c0
  have c1 := hy.c1
  have HZ := asd hz
  have HX := asd hx
  have HY := asd hy
  have HS := asd hs
  have HT := asd ht
  clear hz hx hy hs ht
  go_enter Tryz.func107, Tryz.ntmps107
  go_wp2_with fail
  go_still_tail 10, (by kernel_rfl)
  change wpList _ _ _ _ _ w.drew
  go_wp2_with (go_at_call 137; refine (sum_any' z x u (decide (v < 0)) v.natAbs B d w _ HZ.out HX.out HS.out HY.out.d HT.out (Below.refl _ _).drew).mono ?_; rintro e w1 ⟨rfl, h1, h2⟩; replace h1 := asd h1; replace h2 := asd h2)
  go_ret
  refine ⟨rfl, h1.out, ?_⟩
  have := h2.out
  rwa [show (if decide (v < 0) = true then -(v.natAbs : Int) else (v.natAbs : Int)) = v by by_cases h : v < 0 <;> simp [h] <;> omega] at this
theorem sub_any : Calls Tryz.prog 142 #[.pointer (some ⟨z, 0, none⟩), .pointer (some ⟨x, 0, none⟩), .pointer (some ⟨y, 0, none⟩)] w (Gave z (u - v) w) := by
  obtain ⟨B, d, hy⟩ := hy
  have c0 := hy.c0
  have c1 := hy.c1
  have HZ := asd hz
  have HX := asd hx
  have HY := asd hy
  have HS := asd hs
  have HT := asd ht
  clear hz hx hy hs ht
  go_enter Tryz.func142, Tryz.ntmps142
  go_wp2_with fail
  go_still_tail 11, (by kernel_rfl)
  change wpList _ _ _ _ _ w.drew
  go_wp2_with (go_at_call 137; refine (sum_any' z x u (!decide (v < 0)) v.natAbs B d w _ HZ.out HX.out HS.out HY.out.d HT.out (Below.refl _ _).drew).mono ?_; rintro e w1 ⟨rfl, h1, h2⟩; replace h1 := asd h1; replace h2 := asd h2)
  go_ret
  refine ⟨rfl, h1.out, ?_⟩
  have := h2.out
  rwa [show (if (!decide (v < 0)) = true then -(v.natAbs : Int) else (v.natAbs : Int)) = -v by by_cases h : v < 0 <;> simp [h] <;> omega, ← Int.sub_eq_add_neg] at this
end
theorem drawn_drew {w w' : World} (h : Drawn0 w w') : Drawn0 w w'.drew := h.step 1
theorem drawn_then {w w1 w2 : World} (h : Drawn0 w w1) (k : Drawn0 w1 w2) : Drawn0 w w2 := by
  obtain ⟨n, rfl⟩ := k; exact h.step n
def cmpI (u v : Int) : Int := if u < v then -1 else if u = v then 0 else 1
theorem cmp_any (x y : Nat) (u v : Int) (w : World) (hx : IntV w x u) (hy : IntV w y v) (hs : Short u.natAbs) (ht : Short v.natAbs) :
    Calls Tryz.prog 143 #[.pointer (some ⟨x, 0, none⟩), .pointer (some ⟨y, 0, none⟩)] w fun e w' => e = .returned (.int .i64 (cmpI u v)) ∧ Drawn0 w w' := by
  obtain ⟨A, c, hx⟩ := hx
  obtain ⟨B, d, hy⟩ := hy
  have HX := asd hx.d
  have HY := asd hy.d
  have HS := asd hs
  have HT := asd ht
  have c0 := hx.c0
  have c1 := hx.c1
  have d0 := hy.c0
  have d1 := hy.c1
  clear hx hy hs ht
  by_cases hu : u < 0 <;> by_cases hv : v < 0
  · have hr : cmpN v.natAbs u.natAbs = cmpI u v := by unfold cmpN cmpI; split <;> split <;> (try split) <;> (try split) <;> omega
    have HR := asd hr
    rw [decide_eq_true hu] at c0
    rw [decide_eq_true hv] at d0
    clear hr hu hv
    go_enter Tryz.func143, Tryz.ntmps143
    go_wp2_with fail
    go_quiet (fail)
    go_wp2_with fail
    have c1' : (w.drewN nq).cell? ⟨x, 1, none⟩ = _ := c1
    have d1' : (w.drewN nq).cell? ⟨y, 1, none⟩ = _ := d1
    have HB0 := asd (pw_below_drewN (Below.refl w.heap.size w) nq)
    have HN : Aside0 (Drawn0 w (w.drewN nq)) := ⟨⟨⟨nq, rfl⟩⟩⟩
    generalize w.drewN nq = wq at c1' d1' HB0 HN ⊢
    clear c0 c1 d0 d1
    go_still_tail 8, (by kernel_rfl)
    change wpList _ _ _ _ _ wq.drew
    go_wp2_with (go_at_call 151; refine (cmp_nat' _ (HY.out.below HB0.out.drew) (HX.out.below HB0.out.drew) HT.out HR.out).mono ?_; rintro e w0 ⟨rfl, hw0⟩; replace hw0 := asd hw0)
    go_ret
    exact ⟨rfl, drawn_then (drawn_drew HN.out) hw0.out⟩
  · have hr : cmpI u v = -1 := by unfold cmpI; rw [if_pos (by omega)]
    rw [hr]
    rw [decide_eq_true hu] at c0
    rw [decide_eq_false hv] at d0
    clear hr hu hv
    go_enter Tryz.func143, Tryz.ntmps143
    go_wp2_with fail
    go_quiet (fail)
    go_wp2
    go_ret
    exact ⟨rfl, ⟨⟨_, by first | rfl | simp⟩⟩⟩
  · have hr : cmpI u v = 1 := by unfold cmpI; rw [if_neg (by omega), if_neg (by omega)]
    rw [hr]
    rw [decide_eq_false hu] at c0
    rw [decide_eq_true hv] at d0
    clear hr hu hv
    go_enter Tryz.func143, Tryz.ntmps143
    go_wp2_with fail
    go_quiet (fail)
    go_wp2
    go_ret
    exact ⟨rfl, ⟨⟨_, by first | rfl | simp⟩⟩⟩
  · have hr : cmpN u.natAbs v.natAbs = cmpI u v := by unfold cmpN cmpI; split <;> split <;> (try split) <;> (try split) <;> omega
    have HR := asd hr
    rw [decide_eq_false hu] at c0
    rw [decide_eq_false hv] at d0
    clear hr hu hv
    go_enter Tryz.func143, Tryz.ntmps143
    go_wp2_with fail
    go_quiet (fail)
    go_wp2_with fail
    have c1' : (w.drewN nq).cell? ⟨x, 1, none⟩ = _ := c1
    have d1' : (w.drewN nq).cell? ⟨y, 1, none⟩ = _ := d1
    have HB0 := asd (pw_below_drewN (Below.refl w.heap.size w) nq)
    have HN : Aside0 (Drawn0 w (w.drewN nq)) := ⟨⟨⟨nq, rfl⟩⟩⟩
    generalize w.drewN nq = wq at c1' d1' HB0 HN ⊢
    clear c0 c1 d0 d1
    go_still_tail 8, (by kernel_rfl)
    change wpList _ _ _ _ _ wq.drew
    go_wp2_with (go_at_call 151; refine (cmp_nat' _ (HX.out.below HB0.out.drew) (HY.out.below HB0.out.drew) HS.out HR.out).mono ?_; rintro e w0 ⟨rfl, hw0⟩; replace hw0 := asd hw0)
    go_ret
    exact ⟨rfl, drawn_then (drawn_drew HN.out) hw0.out⟩
theorem setInt64_any (z : Nat) (v : Int) (w : World) (hz : ZB w z) (h0 : -9223372036854775808 ≤ v) (h1 : v < 9223372036854775808) :
    Calls Tryz.prog 156 #[.pointer (some ⟨z, 0, none⟩), .int .i64 v] w (Gave z v w) := by
  have HZ := asd hz
  clear hz
  by_cases hv : v < 0
  · have hc : decide (v < 0) = true := decide_eq_true hv
    have hn : IntKind.u64.wrap (-(IntKind.u64.wrap v)) = (v.natAbs : Int) := by rw [IntKind.wrap_u64, IntKind.wrap_u64]; omega
    have HS := asd (show v.natAbs < 18446744073709551616 by omega)
    have HV := asd hv
    clear hv h0 h1
    go_enter Tryz.func156, Tryz.ntmps156
    go_wp2_with (first | (go_at_call 138; refine (small_nat (a := v.natAbs) HS.out).mono ?_; rintro e w1 ⟨A1, d1, rfl, h1, hb⟩; replace h1 := asd h1; replace hb := asd hb) | (go_at_call 128; refine (put_calls' z true _ _ _ w _ HZ.out h1.out hb.out).mono ?_; rintro e w2 ⟨rfl, h3, h4⟩; replace h3 := asd h3; replace h4 := asd h4))
    go_ret
    exact ⟨rfl, h3.out, intV_of (neg := true) h4.out (by have := HV.out; simp; omega)⟩
  · have hc : decide (v < 0) = false := decide_eq_false hv
    have hn : IntKind.u64.wrap v = (v.natAbs : Int) := by rw [IntKind.wrap_u64]; omega
    have HS := asd (show v.natAbs < 18446744073709551616 by omega)
    have HV := asd hv
    clear hv h0 h1
    go_enter Tryz.func156, Tryz.ntmps156
    go_wp2_with (first | (go_at_call 138; refine (small_nat (a := v.natAbs) HS.out).mono ?_; rintro e w1 ⟨A1, d1, rfl, h1, hb⟩; replace h1 := asd h1; replace hb := asd hb) | (go_at_call 128; refine (put_calls' z false _ _ _ w _ HZ.out h1.out hb.out).mono ?_; rintro e w2 ⟨rfl, h3, h4⟩; replace h3 := asd h3; replace h4 := asd h4))
    go_ret
    exact ⟨rfl, h3.out, intV_of (neg := false) h4.out (by have := HV.out; simp; omega)⟩
end Go.Proofs.YthmeocigliephaaGreatDoor.Big
end
section
namespace Go.Proofs.YthmeocigliephaaGreatDoor.Big
open Go.Proofs.YthmeocigliephaaGreatDoor.PNa Go.Proofs.YthmeocigliephaaGreatDoor.Plain
def MadeI (v : Int) (w : World) (e : Ending) (w' : World) : Prop := ∃ b, e = .returned (.pointer (some ⟨b, 0, none⟩)) ∧ IntV w' b v ∧ Below w.heap.size w w' ∧ w.heap.size ≤ b
theorem ZB.new' (w : World) (n : Bool) (A : Option Addr) (m c : Nat) : ZB (w.alloc (.cells #[.bool n, .slice A m c] 109 (0, 0))) w.heap.size := ⟨n, A, m, c, blk_new _ _⟩
theorem gave_new {z : Nat} {v : Int} {w w1 : World} {e : Ending} {w' : World} (h : Gave z v w1 e w') (hb : Below w.heap.size w w1) (hz : w.heap.size ≤ z) : MadeI v w e w' := by
  obtain ⟨h1, h2, h3⟩ := h
  exact ⟨z, h1, h3, below_only hb h2 hb.size hz, hz⟩
theorem newInt_any (v : Int) (w : World) (h0 : -9223372036854775808 ≤ v) (h1 : v < 9223372036854775808) :
    Calls Tryz.prog 144 #[.int .i64 v] w (MadeI v w) := by
  have H0 := asd h0
  have H1 := asd h1
  clear h0 h1
  go_enter Tryz.func144, Tryz.ntmps144
  go_wp2_with (go_at_call 156; refine (setInt64_any _ v _ (ZB.new' w _ _ _ _) H0.out H1.out).mono ?_; rintro e w1 hg; have hm := asd (gave_new (w := w) hg ((Below.refl _ _).alloc (Nat.le_refl _) _) (Nat.le_refl _)); obtain ⟨rfl, _, _⟩ := hg)
  go_ret
  exact hm.out
theorem bit0_any (x n : Nat) (w : World) (hx : IntV w x n) :
    Calls Tryz.prog 145 #[.pointer (some ⟨x, 0, none⟩), .int .i64 0] w fun e w' => e = .returned (.int .u64 ((n % 2 : Nat) : Int)) ∧ w' = w := by
  obtain ⟨A, c, hx⟩ := hx
  rw [Int.natAbs_natCast] at hx
  have c1 := hx.c1
  have hr := Kd.reads_of_C (enc := Value.int .u32) (d := (0 : Int)) (h1 := fun _ => rfl) hx.rd
  by_cases h0 : n = 0
  · subst h0
    rw [dig_zero] at c1
    clear hx hr
    go_enter Tryz.func145, Tryz.ntmps145
    go_wp2
    go_ret
    exact ⟨rfl, rfl⟩
  · have hp := (dig_pos_iff n).2 h0
    obtain ⟨ad, rfl, hc⟩ := hr.2.2 hp
    have hc0 := hc 0 hp
    have hd0 : (dig n).getD 0 0 = ((n % 4294967296 : Nat) : Int) := by rw [dig_pos h0]; rfl
    rw [hd0, show ad.add 0 = ad from rfl] at hc0
    have ht : decide ((0 : Int) ≥ ((dig n).length : Int)) = false := by simp; exact dig_ne h0
    have ht' : decide (((dig n).length : Int) ≤ 0) = false := by simp; exact dig_ne h0
    have hlt : decide ((0 : Int) < ((dig n).length : Int)) = true := decide_eq_true (by omega)
    have hnil : (dig n = []) = False := eq_false (dig_ne h0)
    have hlt' : (0 : Int) < ((dig n).length : Int) := by omega
    have hn : bits .and .u64 (IntKind.u64.wrap ((n % 4294967296 : Nat) : Int)) 1 = ((n % 2 : Nat) : Int) := by
      rw [u64_of (by omega) (by omega), show (1 : Int) = ((1 : Nat) : Int) from rfl, bits_and_u64_nat _ _ (by omega) (by omega), Nat.and_one_is_mod]; omega
    have HN := asd hn
    clear hx hr hc hp hd0 h0 hn
    go_enter Tryz.func145, Tryz.ntmps145
    go_wp2
    go_ret
    have hn2 := HN.out
    rw [show IntKind.u64.wrap ((n % 4294967296 : Nat) : Int) = (n : Int) % 4294967296 by rw [u64_of (by omega) (by omega)]; omega] at hn2
    exact ⟨congrArg (fun t => Ending.returned (Value.int .u64 t)) hn2, rfl⟩
theorem word_or (n k d : Nat) (hd : (dig n).getD k 0 = (d : Int)) (hd1 : d < 4294967296) (hk : k < 2) (hv : ∀ k, val ((dig n).take k) < 18446744073709551616) :
    bits BinOp.or IntKind.u64 (val (List.take k (dig n)) : Int) (IntKind.u64.wrap ((d : Int) * 2 ^ (32 * k))) = ((val (List.take (k + 1) (dig n)) : Nat) : Int) := by
  have h1 := val_take_succ' (dig n) k
  rw [hd, Int.toNat_natCast] at h1
  have h2 := val_lt ((dg_dig n).take k)
  have h3 : (List.take k (dig n)).length ≤ k := List.length_take_le _ _
  have h4 : val (List.take k (dig n)) < 2 ^ (32 * k) := Nat.lt_of_lt_of_le h2 (Nat.pow_le_pow_right (by omega) (by omega))
  rcases (show k = 0 ∨ k = 1 by omega) with rfl | rfl
  · rw [u64_of (by omega) (by omega), show ((d : Int) * 2 ^ (32 * 0)) = ((d : Nat) : Int) by omega, bits_or_u64_nat _ _ (hv _) (by omega)]
    simp at h4 h1 ⊢
    rw [h1]
  · rw [u64_of (by omega) (by omega), show ((d : Int) * 2 ^ (32 * 1)) = ((2 ^ 32 * d : Nat) : Int) by omega, bits_or_u64_nat _ _ (hv _) (by omega), Nat.or_comm, or_add (by simpa using h4)]
    omega
theorem uint64_any (x n : Nat) (w : World) (hx : IntV w x n) (hn : n < 18446744073709551616) :
    Calls Tryz.prog 147 #[.pointer (some ⟨x, 0, none⟩)] w fun e w' => e = .returned (.int .u64 n) ∧ w' = w := by
  obtain ⟨A, c, hx⟩ := hx
  rw [Int.natAbs_natCast] at hx
  have c1 := hx.c1
  have hr := Kd.reads_of_C (enc := Value.int .u32) (d := (0 : Int)) (h1 := fun _ => rfl) hx.rd
  have hl : (dig n).length ≤ 2 := dig_length_le (by omega)
  have hv : ∀ k, val ((dig n).take k) < 18446744073709551616 := fun k => by
    rw [val_take (dg_dig n), val_dig]; exact Nat.lt_of_le_of_lt (Nat.mod_le _ _) hn
  have HR := asd hr
  have HV := asd hv
  have HN := asd hn
  have HL := asd hl
  clear hx hr hv hn hl
  go_enter Tryz.func147, Tryz.ntmps147
  go_wp2
  go_loop [3, 11] (fun v i => ∃ k : Nat, k ≤ (dig n).length ∧ i = .int .i64 k ∧ v = .int .u64 (val ((dig n).take k) : Int)) (fun _ i => (dig n).length - (intOf i).toNat)
  case atStart => exact ⟨0, Nat.zero_le _, rfl, rfl⟩
  case round =>
    obtain ⟨k, hk, rfl, rfl⟩ := hrel
    have hl := HL.out
    by_cases hlt : k < (dig n).length
    · obtain ⟨ad, rfl, hc⟩ := HR.out.2.2 (by omega)
      have hck := hc k hlt
      obtain ⟨d, hd, hd1⟩ := (dg_dig n).nat k
      rw [hd] at hck
      have hk2 : (k : Int) < 2 := by omega
      have hk0 : (0 : Int) ≤ (k : Int) := by omega
      have hki : (k : Int) < ((dig n).length : Int) := by omega
      have HE := asd (word_or n k d hd hd1 (by omega) HV.out)
      clear hc
      go_wp2
      go_round
      case rel => exact ⟨k + 1, by omega, by go_num, by rw [HE.out]⟩
      case measure => simp [intOf]; omega
    · have e : val (List.take k (dig n)) = n := by rw [show k = (dig n).length by omega, List.take_length, val_dig]
      have hlt' : ¬ ((k : Int) < ((dig n).length : Int)) := by omega
      rw [e]
      clear e
      go_wp2
      go_ret
      exact ⟨rfl, rfl⟩
theorem only_cell {z x : Nat} {w w' : World} (h : Only z w w') (hne : x ≠ z) (hx : x < w.heap.size) (i : Nat) : w'.cell? ⟨x, i, none⟩ = w.cell? ⟨x, i, none⟩ := by
  have := h.block x hx (fun e => hne (by injection e))
  simp [World.cell?, this]
end Go.Proofs.YthmeocigliephaaGreatDoor.Big
end
section
namespace Go.Proofs.YthmeocigliephaaGreatDoor.Big
open Go.Proofs.YthmeocigliephaaGreatDoor.PNa Go.Proofs.YthmeocigliephaaGreatDoor.Plain
def RetNum (r : Bool × List Int × Int × Int) (w : World) (e : Ending) (w' : World) : Prop :=
  ∃ v1_ : Value, e = .returned (.tuple #[.agg #[.bool r.1, v1_, .int .i64 r.2.2.1], .int .i64 r.2.2.2]) ∧ Kd.R (Kd.int .u32) 83 w' w.heap.size (fun _ => True) v1_ r.2.1 ∧ Below w.heap.size w w'
def NumB (w : World) (g : Nat) (n : Bool) (v : Value) (e : Int) : Prop := w.heap[g]? = some (.cells #[.bool n, v, .int .i64 e] 60 (0, 0))
theorem NumB.c0 {w : World} {g : Nat} {n : Bool} {v : Value} {e : Int} (h : NumB w g n v e) : w.cell? ⟨g, 0, none⟩ = some (.bool n) := blk_cell h 0
theorem NumB.c1 {w : World} {g : Nat} {n : Bool} {v : Value} {e : Int} (h : NumB w g n v e) : w.cell? ⟨g, 1, none⟩ = some v := blk_cell h 1
theorem NumB.c2 {w : World} {g : Nat} {n : Bool} {v : Value} {e : Int} (h : NumB w g n v e) : w.cell? ⟨g, 2, none⟩ = some (.int .i64 e) := blk_cell h 2
theorem NumB.fr {w : World} {g : Nat} {n : Bool} {v : Value} {e : Int} (h : NumB w g n v e) (i : Nat) : w.frozen? ⟨g, i, none⟩ = false := blk_frozen h i
theorem NumB.only {w w' : World} {g z : Nat} {n : Bool} {v : Value} {e : Int} (h : NumB w g n v e) (k : Only z w w') (hne : g ≠ z) : NumB w' g n v e :=
  (k.block g (blk_lt h) (fun e => hne (by injection e))).trans h
theorem NumB.below {w w' : World} {g : Nat} {n : Bool} {v : Value} {e : Int} (h : NumB w g n v e) (k : Below w.heap.size w w') : NumB w' g n v e := blk_below h k
theorem Short.tz {n : Nat} (h : Short n) (h0 : n ≠ 0) : tz n < 562949953421280 := by
  have h1 := tz_le h0
  have h2 := lt_dig_length n
  have h3 : 2 ^ Plain.tz n < 2 ^ (32 * (dig n).length) := Nat.lt_of_le_of_lt h1 h2
  have h4 := (Nat.pow_lt_pow_iff_right (by omega)).1 h3
  unfold Short at h; omega
theorem Short.bl {n : Nat} (h : Short n) : Plain.bl n ≤ 562949953421280 := by
  have h2 := Plain.bl_le.2 (lt_dig_length n)
  unfold Short at h; omega
theorem sign_any' (x : Nat) (v s : Int) (w : World) (hx : IntV w x v) (hs : v.sign = s) :
    Calls Tryz.prog 130 #[.pointer (some ⟨x, 0, none⟩)] w fun e w' => e = .returned (.int .i64 s) ∧ w = w' :=
  (sign_any x v s w hx hs).mono fun e w' ⟨h1, h2⟩ => ⟨h1, h2.symm⟩
theorem zeros_any' (x n t : Nat) (w : World) (hx : IntV w x n) (hs : Short n) (hL : Laid w) (ht : Plain.tz n = t) :
    Calls Tryz.prog 131 #[.pointer (some ⟨x, 0, none⟩)] w fun e w' => e = .returned (.int .u64 t) ∧ Drawn0 w w' := by
  subst ht; exact zeros_any x n w hx hs hL
theorem bitLen_any' (x n t : Nat) (w : World) (hx : IntV w x n) (hs : Short n) (ht : Plain.bl n = t) :
    Calls Tryz.prog 126 #[.pointer (some ⟨x, 0, none⟩)] w fun e w' => e = .returned (.int .i64 t) ∧ Drawn0 w w' := by
  subst ht; exact bitLen_any x n w hx hs
theorem r_set {w : World} {base : Nat} {u : Value} {l : List Int} (h : Kd.R (Kd.int .u32) 83 w base (fun _ => True) u l) (p : Addr) (hp : p.block < base) (x : Value) : Kd.R (Kd.int .u32) 83 (w.setCell p x) base (fun _ => True) u l :=
  Kd.R_mono (Kd.R_far (Kd.R_mono (Kd.R_bound h) (ok' := fun k => base ≤ k) (fun k hk => hk.2.1)) (p := p) (fun k hk e => by omega) x) (fun _ _ => trivial)
theorem num_zero (x : Nat) (e : Int) (w : World) (hx : IntV w x 0) :
    Calls Tryz.prog 103 #[.pointer (some ⟨x, 0, none⟩), .int .i64 e] w (RetNum (false, [], 0, 0) w) := by
  have HX := asd hx
  clear hx
  go_enter Tryz.func103, Tryz.ntmps103
  go_wp2_with (go_at_call 130; refine (sign_any x 0 0 _ (HX.out.below ((Below.refl _ _).alloc (Nat.le_refl _) _)) rfl).mono ?_; rintro e w1 ⟨rfl, rfl⟩)
  exact bodyPost_ret (v := .tuple #[.agg #[.bool false, .slice none 0 0, .int .i64 0], .int .i64 0]) (by simp [results, Tryz.results103, go_sem]) rfl ⟨_, rfl, Kd.R_nil _ _ _ _ _, (Below.refl _ _).alloc (Nat.le_refl _) _⟩
section
variable (x : Nat) (z e : Int) (w : World) (hx : IntV w x z) (hz : z ≠ 0) (hs : Short z.natAbs) (hL : Laid w) (he0 : -1000000 ≤ e) (he1 : e ≤ 1000000)
include hx hz hs hL he0 he1
theorem num_long (h : 65536 < bl (z.natAbs / 2 ^ tz z.natAbs) ∨ 65536 - (tz z.natAbs : Int) < e ∨ e < -65536 - (tz z.natAbs : Int)) :
    Calls Tryz.prog 103 #[.pointer (some ⟨x, 0, none⟩), .int .i64 e] w (RetNum (false, [], 0, 2) w) := by
  have HX := asd hx
  have HS := asd hs
  have HL := asd hL
  have hlx : x < w.heap.size := hx.lt
  have hsg : (z.sign == (0 : Int)) = false := by simpa using hz
  obtain ⟨n, hn⟩ : ∃ n, z.natAbs = n := ⟨_, rfl⟩
  rw [hn] at h HS
  obtain ⟨t, ht⟩ : ∃ t, tz n = t := ⟨_, rfl⟩
  rw [ht] at h
  obtain ⟨m, hm⟩ : ∃ m, n / 2 ^ t = m := ⟨_, rfl⟩
  have ht0 : t < 562949953421280 := by have := HS.out.tz (by omega); rw [ht] at this; exact this
  have ht1 : (0 : Int) ≤ (t : Int) := by omega
  have ht2 : (t : Int) ≤ 562949953421280 := by omega
  rw [hm] at h
  obtain ⟨B, hB⟩ : ∃ B, bl m = B := ⟨_, rfl⟩
  rw [hB] at h
  have HT := asd ht
  have HN := asd hn
  have HM := asd hm
  have HBL := asd hB
  have hsm : Short m := HS.out.mono (by rw [← hm]; exact Nat.div_le_self _ _)
  have hbb := hsm.bl
  rw [hB] at hbb
  have HSM := asd hsm
  have hb1 : (0 : Int) ≤ (B : Int) := by omega
  have hb2 : (B : Int) ≤ 562949953421280 := by omega
  have he3 : (-1000000 : Int) ≤ e := he0
  have he4 : e ≤ 1000000 := he1
  have B1 := asd (((Below.refl w.heap.size w).alloc (Nat.le_refl _) (.cells #[.bool false, .slice none 0 0, .int .i64 0] 60 (0, 0))).alloc (by simp) (.cells #[.bool false, .slice none 0 0] 109 (0, 0)))
  have N1 := asd (show NumB ((w.alloc (.cells #[.bool false, .slice none 0 0, .int .i64 0] 60 (0, 0))).alloc (.cells #[.bool false, .slice none 0 0] 109 (0, 0))) w.heap.size false (.slice none 0 0) 0 from blk_alloc (blk_new _ _) _)
  have Z1 := asd (show ZB ((w.alloc (.cells #[.bool false, .slice none 0 0, .int .i64 0] 60 (0, 0))).alloc (.cells #[.bool false, .slice none 0 0] 109 (0, 0))) (w.heap.size + 1) by have := ZB.new' (w.alloc (.cells #[.bool false, .slice none 0 0, .int .i64 0] 60 (0, 0))) false none 0 0; simpa using this)
  by_cases hB0 : 65536 < B
  · have hge2 : decide ((B : Int) > 65536) = true := by simp; omega
    clear hx hs hL ht hn hz hm hB h he0 he1 hbb hsm hB0
    go_enter Tryz.func103, Tryz.ntmps103
    go_wp2_with (first
        | (go_at_call 95; refine (abs_any (w.heap.size + 1) x z _ Z1.out (HX.out.below B1.out)).mono ?_; rintro e1 w2 ⟨rfl, o1, i1⟩; rw [HN.out] at i1; have N2 := asd (N1.out.only o1 (by omega)); have B2 := asd (below_only B1.out o1 B1.out.size (by omega)); have I2 := asd i1; have L2 := asd (HL.out.step B2.out); clear o1 i1)
        | (go_at_call 131; refine (zeros_any' _ n t _ I2.out HS.out L2.out HT.out).mono ?_; rintro e1 w3 ⟨rfl, d3⟩; have B3 := asd (below_post d3.below B2.out); have N3 := asd (N2.out.below d3.below); have I3 := asd (I2.out.below d3.below); clear d3)
        | (go_at_call 132; refine (rsh_any _ _ t n _ I3.out.z I3.out HS.out (by omega)).mono ?_; rintro e1 w4 ⟨rfl, o1, i1⟩; rw [HM.out] at i1; have N4 := asd (N3.out.only o1 (by omega)); have B4 := asd (below_only B3.out o1 B3.out.size (by omega)); have I4 := asd i1; clear o1 i1)
        | (go_at_call 126; refine (bitLen_any' _ m B _ I4.out HSM.out HBL.out).mono ?_; rintro e1 w5 ⟨rfl, d5⟩; have B5 := asd (below_post d5.below B4.out); have N5 := N4.out.below d5.below; have q0 := N5.c0; have q1 := N5.c1; have q2 := N5.c2; have q3 := N5.fr 0; have q4 := N5.fr 1; have q5 := N5.fr 2; replace N5 := asd N5; clear d5)
        | (go_at_call 130; refine (sign_any' x z z.sign _ (HX.out.below ((Below.refl _ _).alloc (Nat.le_refl _) _)) rfl).mono ?_; rintro e1 w1 ⟨rfl, rfl⟩))
    refine bodyPost_ret (v := .tuple #[.agg #[.bool false, .slice none 0 0, .int .i64 0], .int .i64 2]) (by simp [results, Tryz.results103, go_sem, q0, q1, q2, q3, q4, q5]) rfl ?_
    exact ⟨_, rfl, Kd.R_nil _ _ _ _ _, ((B5.out.setCell (by simp) _).setCell (by simp) _).setCell (by simp) _⟩
  · have hge2 : decide ((B : Int) > 65536) = false := by simp; omega
    by_cases hE : 65536 - (t : Int) < e
    · have hg2 : decide (e > 65536 - (t : Int)) = true := by simp; omega
      clear hx hs hL ht hn hz hm hB h he0 he1 hbb hsm hB0 hE
      go_enter Tryz.func103, Tryz.ntmps103
      go_wp2_with (first
          | (go_at_call 95; refine (abs_any (w.heap.size + 1) x z _ Z1.out (HX.out.below B1.out)).mono ?_; rintro e1 w2 ⟨rfl, o1, i1⟩; rw [HN.out] at i1; have N2 := asd (N1.out.only o1 (by omega)); have B2 := asd (below_only B1.out o1 B1.out.size (by omega)); have I2 := asd i1; have L2 := asd (HL.out.step B2.out); clear o1 i1)
          | (go_at_call 131; refine (zeros_any' _ n t _ I2.out HS.out L2.out HT.out).mono ?_; rintro e1 w3 ⟨rfl, d3⟩; have B3 := asd (below_post d3.below B2.out); have N3 := asd (N2.out.below d3.below); have I3 := asd (I2.out.below d3.below); clear d3)
          | (go_at_call 132; refine (rsh_any _ _ t n _ I3.out.z I3.out HS.out (by omega)).mono ?_; rintro e1 w4 ⟨rfl, o1, i1⟩; rw [HM.out] at i1; have N4 := asd (N3.out.only o1 (by omega)); have B4 := asd (below_only B3.out o1 B3.out.size (by omega)); have I4 := asd i1; clear o1 i1)
          | (go_at_call 126; refine (bitLen_any' _ m B _ I4.out HSM.out HBL.out).mono ?_; rintro e1 w5 ⟨rfl, d5⟩; have B5 := asd (below_post d5.below B4.out); have N5 := N4.out.below d5.below; have q0 := N5.c0; have q1 := N5.c1; have q2 := N5.c2; have q3 := N5.fr 0; have q4 := N5.fr 1; have q5 := N5.fr 2; replace N5 := asd N5; clear d5)
          | (go_at_call 130; refine (sign_any' x z z.sign _ (HX.out.below ((Below.refl _ _).alloc (Nat.le_refl _) _)) rfl).mono ?_; rintro e1 w1 ⟨rfl, rfl⟩))
      refine bodyPost_ret (v := .tuple #[.agg #[.bool false, .slice none 0 0, .int .i64 0], .int .i64 2]) (by simp [results, Tryz.results103, go_sem, q0, q1, q2, q3, q4, q5]) rfl ?_
      exact ⟨_, rfl, Kd.R_nil _ _ _ _ _, ((B5.out.setCell (by simp) _).setCell (by simp) _).setCell (by simp) _⟩
    · have hg2 : decide (e > 65536 - (t : Int)) = false := by simp; omega
      have hg3 : decide (e < -65536 - (t : Int)) = true := by simp; omega
      clear hx hs hL ht hn hz hm hB h he0 he1 hbb hsm hB0 hE
      go_enter Tryz.func103, Tryz.ntmps103
      go_wp2_with (first
          | (go_at_call 95; refine (abs_any (w.heap.size + 1) x z _ Z1.out (HX.out.below B1.out)).mono ?_; rintro e1 w2 ⟨rfl, o1, i1⟩; rw [HN.out] at i1; have N2 := asd (N1.out.only o1 (by omega)); have B2 := asd (below_only B1.out o1 B1.out.size (by omega)); have I2 := asd i1; have L2 := asd (HL.out.step B2.out); clear o1 i1)
          | (go_at_call 131; refine (zeros_any' _ n t _ I2.out HS.out L2.out HT.out).mono ?_; rintro e1 w3 ⟨rfl, d3⟩; have B3 := asd (below_post d3.below B2.out); have N3 := asd (N2.out.below d3.below); have I3 := asd (I2.out.below d3.below); clear d3)
          | (go_at_call 132; refine (rsh_any _ _ t n _ I3.out.z I3.out HS.out (by omega)).mono ?_; rintro e1 w4 ⟨rfl, o1, i1⟩; rw [HM.out] at i1; have N4 := asd (N3.out.only o1 (by omega)); have B4 := asd (below_only B3.out o1 B3.out.size (by omega)); have I4 := asd i1; clear o1 i1)
          | (go_at_call 126; refine (bitLen_any' _ m B _ I4.out HSM.out HBL.out).mono ?_; rintro e1 w5 ⟨rfl, d5⟩; have B5 := asd (below_post d5.below B4.out); have N5 := N4.out.below d5.below; have q0 := N5.c0; have q1 := N5.c1; have q2 := N5.c2; have q3 := N5.fr 0; have q4 := N5.fr 1; have q5 := N5.fr 2; replace N5 := asd N5; clear d5)
          | (go_at_call 130; refine (sign_any' x z z.sign _ (HX.out.below ((Below.refl _ _).alloc (Nat.le_refl _) _)) rfl).mono ?_; rintro e1 w1 ⟨rfl, rfl⟩))
      refine bodyPost_ret (v := .tuple #[.agg #[.bool false, .slice none 0 0, .int .i64 0], .int .i64 2]) (by simp [results, Tryz.results103, go_sem, q0, q1, q2, q3, q4, q5]) rfl ?_
      exact ⟨_, rfl, Kd.R_nil _ _ _ _ _, ((B5.out.setCell (by simp) _).setCell (by simp) _).setCell (by simp) _⟩
theorem num_ok (h1 : bl (z.natAbs / 2 ^ tz z.natAbs) ≤ 65536) (h2 : e ≤ 65536 - (tz z.natAbs : Int)) (h3 : -65536 - (tz z.natAbs : Int) ≤ e) :
    Calls Tryz.prog 103 #[.pointer (some ⟨x, 0, none⟩), .int .i64 e] w (RetNum (decide (z < 0), dig (z.natAbs / 2 ^ tz z.natAbs), e + tz z.natAbs, 0) w) := by
  have HX := asd hx
  have HS := asd hs
  have HL := asd hL
  have hlx : x < w.heap.size := hx.lt
  have hsg : (z.sign == (0 : Int)) = false := by simpa using hz
  obtain ⟨n, hn⟩ : ∃ n, z.natAbs = n := ⟨_, rfl⟩
  rw [hn] at h1 h2 h3 HS ⊢
  obtain ⟨t, ht⟩ : ∃ t, tz n = t := ⟨_, rfl⟩
  rw [ht] at h1 h2 h3 ⊢
  obtain ⟨m, hm⟩ : ∃ m, n / 2 ^ t = m := ⟨_, rfl⟩
  have ht0 : t < 562949953421280 := by have := HS.out.tz (by omega); rw [ht] at this; exact this
  have ht1 : (0 : Int) ≤ (t : Int) := by omega
  have ht2 : (t : Int) ≤ 562949953421280 := by omega
  rw [hm] at h1 ⊢
  obtain ⟨B, hB⟩ : ∃ B, bl m = B := ⟨_, rfl⟩
  rw [hB] at h1
  have H1 := asd h1
  have H2 := asd h2
  have H3 := asd h3
  have H4 := asd he0
  have H5 := asd he1
  have HT := asd ht
  have HN := asd hn
  have HM := asd hm
  have HBL := asd hB
  have HSM := asd (show Short m from HS.out.mono (by rw [← hm]; exact Nat.div_le_self _ _))
  have hb1 : (0 : Int) ≤ (B : Int) := by omega
  have hb2 : (B : Int) ≤ 65536 := by omega
  have he3 : (-562949953486816 : Int) ≤ e := by omega
  have he4 : e ≤ 65536 := by omega
  have hsl : (z.sign < 0) = (z < 0) := propext Int.sign_neg_iff
  have hge1 : ((B : Int) > 65536) = False := by simp; omega
  have hge2 : decide ((B : Int) > 65536) = false := by simp; omega
  have hg2 : decide (e > 65536 - (t : Int)) = false := by simp; omega
  have hg3 : decide (e < -65536 - (t : Int)) = false := by simp; omega
  clear hx hs hL ht hn hz hm hB h1 h2 h3 he0 he1
  go_enter Tryz.func103, Tryz.ntmps103
  have B1 := asd (((Below.refl w.heap.size w).alloc (Nat.le_refl _) (.cells #[.bool false, .slice none 0 0, .int .i64 0] 60 (0, 0))).alloc (by simp) (.cells #[.bool false, .slice none 0 0] 109 (0, 0)))
  have N1 := asd (show NumB ((w.alloc (.cells #[.bool false, .slice none 0 0, .int .i64 0] 60 (0, 0))).alloc (.cells #[.bool false, .slice none 0 0] 109 (0, 0))) w.heap.size false (.slice none 0 0) 0 from blk_alloc (blk_new _ _) _)
  have Z1 := asd (show ZB ((w.alloc (.cells #[.bool false, .slice none 0 0, .int .i64 0] 60 (0, 0))).alloc (.cells #[.bool false, .slice none 0 0] 109 (0, 0))) (w.heap.size + 1) by have := ZB.new' (w.alloc (.cells #[.bool false, .slice none 0 0, .int .i64 0] 60 (0, 0))) false none 0 0; simpa using this)
  go_wp2_with (first
    | (go_at_call 95; refine (abs_any (w.heap.size + 1) x z _ Z1.out (HX.out.below B1.out)).mono ?_; rintro e1 w2 ⟨rfl, o1, i1⟩; rw [HN.out] at i1; have N2 := asd (N1.out.only o1 (by omega)); have B2 := asd (below_only B1.out o1 B1.out.size (by omega)); have X2 := asd ((HX.out.below B1.out).only o1 (.inl Z1.out) (by omega)); have I2 := asd i1; have L2 := asd (HL.out.step B2.out); clear o1 i1)
    | (go_at_call 131; refine (zeros_any' _ n t _ I2.out HS.out L2.out HT.out).mono ?_; rintro e1 w3 ⟨rfl, d3⟩; have B3 := asd (below_post d3.below B2.out); have N3 := asd (N2.out.below d3.below); have X3 := asd (X2.out.below d3.below); have I3 := asd (I2.out.below d3.below); clear d3)
    | (go_at_call 132; refine (rsh_any _ _ t n _ I3.out.z I3.out HS.out (by omega)).mono ?_; rintro e1 w4 ⟨rfl, o1, i1⟩; rw [HM.out] at i1; have N4 := asd (N3.out.only o1 (by omega)); have B4 := asd (below_only B3.out o1 B3.out.size (by omega)); have X4 := asd (X3.out.only o1 (.inl I3.out.z) (by omega)); have I4 := asd i1; clear o1 i1)
    | (go_at_call 126; refine (bitLen_any' _ m B _ I4.out HSM.out HBL.out).mono ?_; rintro e1 w5 ⟨rfl, d5⟩; have B5 := asd (below_post d5.below B4.out); have N5 := asd (N4.out.below d5.below); have X5 := asd (X4.out.below d5.below); have I5 := asd (I4.out.below d5.below); clear d5)
    | (go_at_call 130; refine (sign_any' x z z.sign _ X5.out rfl).mono ?_; rintro e1 w6 ⟨rfl, rfl⟩)
    | (go_at_call 133; refine (words_any _ m _ (I5.out.below ((Below.refl _ _).alloc (Nat.le_refl _) _)) HSM.out).mono ?_; rintro e1 w6 ⟨u, rfl, r6, b6⟩; obtain ⟨Au, cu, hu⟩ := Kd.R_slice r6; subst hu; have hlt5 : w.heap.size < w5.heap.size := blk_lt N5.out; have ne1 : (w5.heap.size = w.heap.size) = False := eq_false (by omega); have ne2 : (w.heap.size = w5.heap.size) = False := eq_false (by omega); have B6 := asd (below_post b6 (B5.out.alloc B5.out.size _)); have N6 := (N5.out.below ((Below.refl _ _).alloc (Nat.le_refl _) (.cells #[.bool (decide (z < 0)), .slice none 0 0, .int .i64 (e + t)] 60 (0, 0)))).below b6; have M6 : NumB w6 w5.heap.size (decide (z < 0)) (.slice none 0 0) (e + t) := NumB.below (blk_new _ _) b6; have q0 := N6.c0; have q1 := N6.c1; have q2 := N6.c2; have q3 := N6.fr 0; have q4 := N6.fr 1; have q5 := N6.fr 2; have p0 := M6.c0; have p1 := M6.c1; have p2 := M6.c2; have p3 := M6.fr 0; have p4 := M6.fr 1; have p5 := M6.fr 2; have R6 := asd r6; replace N6 := asd N6; replace M6 := asd M6; clear b6 r6)
    | (go_at_call 130; refine (sign_any' x z z.sign _ (HX.out.below ((Below.refl _ _).alloc (Nat.le_refl _) _)) rfl).mono ?_; rintro e w1 ⟨rfl, rfl⟩))
  refine bodyPost_ret (v := .tuple #[.agg #[.bool (decide (z < 0)), .slice Au (dig m).length cu, .int .i64 (e + t)], .int .i64 0]) (by simp [results, Tryz.results103, go_sem, p0, p1, p2, p3, p4, p5, q0, q1, q2, q3, q4, q5, ne1, ne2]) rfl ?_
  have hlt5 : w.heap.size < w5.heap.size := blk_lt N5.out
  have hsz : (w5.alloc (.cells #[.bool (decide (z < 0)), .slice none 0 0, .int .i64 (e + t)] 60 (0, 0))).heap.size = w5.heap.size + 1 := by simp
  have r6 := R6.out
  rw [hsz] at r6
  exact ⟨_, rfl, Kd.R_lower (r_set (r_set (r_set (r_set r6 _ (by simp) _) _ (by simp; omega) _) _ (by simp; omega) _) _ (by simp; omega) _) (by omega), (((B6.out.setCell (by simp; omega) _).setCell (by simp) _).setCell (by simp) _).setCell (by simp) _⟩
end
end Go.Proofs.YthmeocigliephaaGreatDoor.Big
end
section
namespace Go.Proofs.YthmeocigliephaaGreatDoor.Big
open Go.Proofs.YthmeocigliephaaGreatDoor.PNa Go.Proofs.YthmeocigliephaaGreatDoor.Plain
def mkN (z e : Int) : Bool × List Int × Int × Int :=
  if z = 0 then (false, [], 0, 0)
  else if bl (z.natAbs / 2 ^ tz z.natAbs) ≤ 65536 ∧ e ≤ 65536 - (tz z.natAbs : Int) ∧ -65536 - (tz z.natAbs : Int) ≤ e then (decide (z < 0), dig (z.natAbs / 2 ^ tz z.natAbs), e + tz z.natAbs, 0)
  else (false, [], 0, 2)
theorem num_any (x : Nat) (z e : Int) (w : World) (hx : IntV w x z) (hs : Short z.natAbs) (hL : Laid w) (he0 : -1000000 ≤ e) (he1 : e ≤ 1000000) :
    Calls Tryz.prog 103 #[.pointer (some ⟨x, 0, none⟩), .int .i64 e] w (RetNum (mkN z e) w) := by
  unfold mkN
  by_cases hz : z = 0
  · subst hz; rw [if_pos rfl]; exact num_zero x e w hx
  · rw [if_neg hz]
    by_cases h : bl (z.natAbs / 2 ^ tz z.natAbs) ≤ 65536 ∧ e ≤ 65536 - (tz z.natAbs : Int) ∧ -65536 - (tz z.natAbs : Int) ≤ e
    · rw [if_pos h]; exact num_ok x z e w hx hz hs hL he0 he1 h.1 h.2.1 h.2.2
    · rw [if_neg h]; exact num_long x z e w hx hz hs hL he0 he1 (by omega)
def zv (neg : Bool) (l : List Int) : Int := if neg then -(val l : Int) else val l
theorem zv_natAbs (neg : Bool) (l : List Int) : (zv neg l).natAbs = val l := by unfold zv; cases neg <;> simp
theorem value_any (neg : Bool) (l : List Int) (e : Int) (A : Option Addr) (c : Nat) (w : World) (hd : DigS w l A c) (hg : Dg l) (hl : l.length < 17592186044415) :
    Calls Tryz.prog 93 #[.agg #[.bool neg, .slice A l.length c, .int .i64 e]] w (MadeI (zv neg l) w) := by
  have HD := asd hd
  have HG := asd hg
  have HL := asd hl
  have B1 := asd (((Below.refl w.heap.size w).alloc (Nat.le_refl _) (.cells #[.bool neg, .slice A l.length c, .int .i64 e] 60 (0, 0))).alloc (by simp) (.cells #[.bool false, .slice none 0 0] 109 (0, 0)))
  have N1 := asd (show NumB ((w.alloc (.cells #[.bool neg, .slice A l.length c, .int .i64 e] 60 (0, 0))).alloc (.cells #[.bool false, .slice none 0 0] 109 (0, 0))) w.heap.size neg (.slice A l.length c) e from blk_alloc (blk_new _ _) _)
  have Z1 := asd (show ZB ((w.alloc (.cells #[.bool neg, .slice A l.length c, .int .i64 e] 60 (0, 0))).alloc (.cells #[.bool false, .slice none 0 0] 109 (0, 0))) (w.heap.size + 1) by have := ZB.new' (w.alloc (.cells #[.bool neg, .slice A l.length c, .int .i64 e] 60 (0, 0))) false none 0 0; simpa using this)
  clear hd hg hl
  cases neg
  all_goals
    go_enter Tryz.func93, Tryz.ntmps93
    go_wp2_with (first
      | (go_at_call 125; refine (setWords_any (w.heap.size + 1) l A c _ Z1.out (HD.out.below B1.out) HG.out HL.out).mono ?_; rintro e1 w2 ⟨rfl, o1, i1⟩; have N2 := N1.out.only o1 (by omega); have q0 := N2.c0; have q1 := N2.c1; have q2 := N2.c2; have B2 := asd (below_only B1.out o1 B1.out.size (by omega)); replace i1 := asd i1; clear o1 N2)
      | (go_at_call 124; refine (neg_any (w.heap.size + 1) (w.heap.size + 1) _ _ i1.out.z i1.out).mono ?_; rintro e1 w3 ⟨rfl, o1, i2⟩; replace B2 := asd (below_only B2.out o1 B2.out.size (by omega)); replace i1 := asd i2; clear o1 i2))
    go_ret
    exact ⟨_, rfl, i1.out, B2.out, by omega⟩
def _root_.Go.Proofs.YthmeocigliephaaGreatDoor.dyad_Top.f (a0_0 : Bool) (l0_1 : List Int) (a0_2 : Int) : Option Int :=
  (dyad_Valid.f a0_0 l0_1 a0_2).bind fun t => if t = true then (if l0_1.length = 0 then some 0 else if (∀ d ∈ l0_1, 0 ≤ d ∧ d < 4294967296) then some ((bl (val l0_1) : Int) + a0_2) else none) else some 0
theorem valid_facts {a : Bool} {l : List Int} {e : Int} (h : dyad_Valid.f a l e = some true) (hl : l.length ≠ 0) : l.length ≤ 2048 ∧ -65536 ≤ e ∧ e ≤ 65536 := by
  unfold dyad_Valid.f at h
  rw [if_neg (by omega)] at h
  split at h
  · refine ⟨by omega, ?_⟩
    split at h <;> try (cases h; done)
    split at h <;> try (cases h; done)
    split at h <;> try (cases h; done)
    split at h <;> try (cases h; done)
    split at h <;> try (cases h; done)
    split at h <;> try (cases h; done)
    simp at h
    omega
  · cases h
theorem _root_.Go.Proofs.YthmeocigliephaaGreatDoor.dyad_Top.calls (a0_0 : Bool) (A0_1 : Option Addr) (c0_1 : Nat) (l0_1 : List Int) (a0_2 : Int) (r : Int) (w : World) (hr0_1 : Kd.C (Kd.int .u32) w A0_1 l0_1.length l0_1) (hc0_1 : l0_1.length ≤ c0_1) (h : dyad_Top.f a0_0 l0_1 a0_2 = some r) :
    Calls Tryz.prog 135 #[.agg #[.bool a0_0, .slice A0_1 l0_1.length c0_1, .int .i64 a0_2]] w fun e w' => e = .returned (.int .i64 r) ∧ Below w.heap.size w w' := by
  unfold dyad_Top.f at h
  obtain ⟨t, hV, h⟩ := Option.bind_eq_some_iff.1 h
  have HR := asd hr0_1
  have HC := asd hc0_1
  have HV := asd hV
  have HB := asd ((Below.refl w.heap.size w).alloc (Nat.le_refl _) (.cells #[.bool a0_0, .slice A0_1 l0_1.length c0_1, .int .i64 a0_2] 60 (0, 0)))
  have N1 := asd (show NumB (w.alloc (.cells #[.bool a0_0, .slice A0_1 l0_1.length c0_1, .int .i64 a0_2] 60 (0, 0))) w.heap.size a0_0 (.slice A0_1 l0_1.length c0_1) a0_2 from blk_new _ _)
  by_cases ht : t = true
  · subst ht
    rw [if_pos rfl] at h
    by_cases hl : l0_1.length = 0
    · rw [if_pos hl] at h
      obtain rfl := Option.some.inj h
      have hl' : ((l0_1.length : Int) == 0) = true := by simp; exact List.length_eq_zero_iff.1 hl
      clear hr0_1 hc0_1 h hV hl
      go_enter Tryz.func135, Tryz.ntmps135
      go_wp2_with (go_at_call 91; refine (dyad_Valid.calls a0_0 A0_1 c0_1 l0_1 a0_2 true _ (Kd.C_below HR.out HB.out) HC.out HV.out).mono ?_; rintro e w2 ⟨rfl, b2⟩; have B2 := asd (below_post b2 HB.out); have N2 := N1.out.below b2; have q0 := N2.c0; have q1 := N2.c1; have q2 := N2.c2; clear b2 N2)
      go_ret
      exact ⟨rfl, B2.out⟩
    · rw [if_neg hl] at h
      split at h
      · rename_i hg
        obtain rfl := Option.some.inj h
        obtain ⟨hl2, he0, he1⟩ := valid_facts hV hl
        have HG := asd (show Dg l0_1 from hg)
        have hl' : ((l0_1.length : Int) == 0) = false := by simp; exact fun e => hl (by rw [e]; rfl)
        have hbl : bl (val l0_1) ≤ 65536 := bl_le.2 (Nat.lt_of_lt_of_le (val_lt HG.out) (Nat.pow_le_pow_right (by omega) (by omega)))
        have HS := asd (show Short (val l0_1) from Short.of (k := 2048) (Nat.lt_of_lt_of_le (val_lt HG.out) (Nat.pow_le_pow_right (by omega) (by omega))) (by omega))
        obtain ⟨B, hB⟩ : ∃ B, bl (val l0_1) = B := ⟨_, rfl⟩
        rw [hB] at hbl
        rw [hB]
        have HBL := asd hB
        have hb1 : (0 : Int) ≤ (B : Int) := by omega
        have hb2 : (B : Int) ≤ 65536 := by omega
        have HL2 := asd (show l0_1.length < 17592186044415 by omega)
        clear hr0_1 hc0_1 h hV hl hg hB hbl hl2
        go_enter Tryz.func135, Tryz.ntmps135
        go_wp2_with (go_at_call 91; refine (dyad_Valid.calls a0_0 A0_1 c0_1 l0_1 a0_2 true _ (Kd.C_below HR.out HB.out) HC.out HV.out).mono ?_; rintro e w2 ⟨rfl, b2⟩; have B2 := asd (below_post b2 HB.out); have N2 := N1.out.below b2; have q0 := N2.c0; have q1 := N2.c1; have q2 := N2.c2; have lx : w.heap.size < w2.heap.size := blk_lt N2; clear b2 N2)
        go_region_held3 (fun w' => w'.cell? ⟨w.heap.size, 0, none⟩ = some (.bool a0_0) ∧ w'.cell? ⟨w.heap.size, 1, none⟩ = some (.slice A0_1 l0_1.length c0_1) ∧ w'.cell? ⟨w.heap.size, 2, none⟩ = some (.int .i64 a0_2))
          (first | exact ⟨q0, q1, q2⟩ | exact S2.out | exact S1.out | go_keep)
          ((first
            | (go_at_call 93; refine (value_any a0_0 l0_1 a0_2 A0_1 c0_1 _ ⟨HC.out, Kd.C_below HR.out (by exact B2.out.drew)⟩ HG.out HL2.out).mono ?_; rintro e1 w3 ⟨b, rfl, i3, b3, n3⟩; have S1 := asd (show w3.cell? ⟨w.heap.size, 0, none⟩ = some (.bool a0_0) ∧ w3.cell? ⟨w.heap.size, 1, none⟩ = some (.slice A0_1 l0_1.length c0_1) ∧ w3.cell? ⟨w.heap.size, 2, none⟩ = some (.int .i64 a0_2) from ⟨(b3.cell (p := ⟨w.heap.size, 0, none⟩) lx).trans q0, (b3.cell (p := ⟨w.heap.size, 1, none⟩) lx).trans q1, (b3.cell (p := ⟨w.heap.size, 2, none⟩) lx).trans q2⟩); have B3 := asd (below_post b3 (by exact B2.out.drew)); replace i3 := asd i3; clear b3 n3)
            | (go_at_call 126; refine (bitLen_any _ _ _ i3.out (by rw [zv_natAbs]; exact HS.out)).mono ?_; rw [zv_natAbs, HBL.out]; rintro e1 w4 ⟨rfl, ⟨m4, rfl⟩⟩; have S2 := asd (show (w3.drewN m4).cell? ⟨w.heap.size, 0, none⟩ = some (.bool a0_0) ∧ (w3.drewN m4).cell? ⟨w.heap.size, 1, none⟩ = some (.slice A0_1 l0_1.length c0_1) ∧ (w3.drewN m4).cell? ⟨w.heap.size, 2, none⟩ = some (.int .i64 a0_2) from S1.out))))
        go_wp2
        go_ret
        exact ⟨congrArg (fun t => Ending.returned (Value.int .i64 t)) ((i64_w _).trans (w64_of (by omega) (by omega))), pw_below_drewN B3.out _⟩
      · cases h
  · have ht' : t = false := by simpa using ht
    subst ht'
    obtain rfl := Option.some.inj h
    clear hr0_1 hc0_1 hV ht
    go_enter Tryz.func135, Tryz.ntmps135
    go_wp2_with (go_at_call 91; refine (dyad_Valid.calls a0_0 A0_1 c0_1 l0_1 a0_2 false _ (Kd.C_below HR.out HB.out) HC.out HV.out).mono ?_; rintro e w2 ⟨rfl, b2⟩; have B2 := asd (below_post b2 HB.out); clear b2)
    go_ret
    exact ⟨rfl, B2.out⟩
end Go.Proofs.YthmeocigliephaaGreatDoor.Big
end
section
namespace Go.Proofs.YthmeocigliephaaGreatDoor.PNe
attribute [local go_sem] f64bits_run f64from_run run_float_some max2_int min2_int max_two min_two max_three min_three max_four min_four
def dyad_far.j0 : Nat → Bool → Bool → List Int → Int → Bool → List Int → Int → Option (Bool)
 | 0, _, _, _, _, _, _, _ => none
 | k + 1, x14, x102000, x102001, x102002, x103000, x103001, x103002 => if x14 = true then (some false) else ((dyad_Top.f x102000 x102001 x102002).bind fun t103 => ((dyad_Top.f x103000 x103001 x103002).bind fun t104 => (some (decide ((wrap64 ((mx t103 t104) - (mn x102002 x103002))) > 65538)))))
def dyad_far.f (k : Nat) (a0_0 : Bool) (l0_1 : List Int) (a0_2 : Int) (a1_0 : Bool) (l1_1 : List Int) (a1_2 : Int) : Option (Bool) := if (l0_1.length : Int) = 0 then (dyad_far.j0 k true a0_0 l0_1 a0_2 a1_0 l1_1 a1_2) else (dyad_far.j0 k ((l1_1.length : Int) == 0) a0_0 l0_1 a0_2 a1_0 l1_1 a1_2)
def dyad_far.T3 : Bool × List (List Nat × List Nat) := (true, [([], []), ([0], [0]), ([], []), ([2, 1], [2]), ([1, 3], [1, 3]), ([], []), ([5], [5]), ([], []), ([7], [7]), ([6, 8], [6, 8]), ([4, 9], [4, 9]), ([10], [10]), ([11, 3, 0, 1, 2, 3, 4, 5, 6, 7, 8, 9, 10, 11], [11])])
def dyad_far.B3 : List Nat := [0, 1, 0, 7, 15, 0, 32, 0, 128, 480, 1023, 2047, 4095]
theorem dyad_far.tab3 : rtab .any (opsOf Tryz.f105 3) = dyad_far.T3 := by kernel_rfl
theorem dyad_far.bits3 : waitsOk dyad_far.T3.2 dyad_far.B3 = true := by kernel_rfl
theorem dyad_far.calls (k : Nat) (a0_0 : Bool) (A0_1 : Option Addr) (c0_1 : Nat) (l0_1 : List Int) (a0_2 : Int) (a1_0 : Bool) (A1_1 : Option Addr) (c1_1 : Nat) (l1_1 : List Int) (a1_2 : Int) (r : Bool) (w : World) (hr0_1 : Kd.C (Kd.int .u32) w A0_1 l0_1.length l0_1) (hc0_1 : l0_1.length ≤ c0_1) (hr1_1 : Kd.C (Kd.int .u32) w A1_1 l1_1.length l1_1) (hc1_1 : l1_1.length ≤ c1_1) (h : dyad_far.f k a0_0 l0_1 a0_2 a1_0 l1_1 a1_2 = some r) :
  Calls Tryz.prog 105 #[.agg #[.bool a0_0, .slice A0_1 l0_1.length c0_1, .int .i64 a0_2], .agg #[.bool a1_0, .slice A1_1 l1_1.length c1_1, .int .i64 a1_2]] w fun e w' => e = .returned (.bool r) ∧ Below w.heap.size w w' := by
 have hu60 := Tryz.underlying60
 have HR0_1 := asd hr0_1
 have HC0_1 := asd hc0_1
 clear hr0_1 hc0_1
 have HR1_1 := asd hr1_1
 have HC1_1 := asd hc1_1
 clear hr1_1 hc1_1
 have HB := asd (Below.refl w.heap.size w)
 have H := h
 clear h
 unfold dyad_far.f at H
 have HC3 := asd H
 clear H
 go_enter Tryz.func105, Tryz.ntmps105
 go_upto_region 1 with (first | ((with_reducible refine gate_dst (N := 2) rfl ?_); (try (refine gate_guard (by rfl) ?_; dsimp only)); refine box_ev (w := w) ?hg (N := 2) ?hd hbw (cs := #[.bool a0_0, .slice A0_1 l0_1.length c0_1, .int .i64 a0_2]) (t := 60) ?hr ?_; (case hd => rfl); (case hg => rfl); (case hr => first | (go_simp; done) | (go_simp; rfl)); clear HB; intro gb101 w4 HB BK101 GW101; have GE101 := GW101) | ((with_reducible refine gate_dst (N := 3) rfl ?_); (try (refine gate_guard (by rfl) ?_; dsimp only)); refine box_event ?hg (N := 3) ?hd (cs := #[.bool a1_0, .slice A1_1 l1_1.length c1_1, .int .i64 a1_2]) (t := 60) ?hr ?_; (case hd => rfl); (case hg => rfl); (case hr => first | (go_simp; done) | (go_simp; rfl)); intro gb102 hg w5 hbox hb; have n0_ := asd (blk_below (g := gb101) (o := .cells #[.bool a0_0, .slice A0_1 l0_1.length c0_1, .int .i64 a0_2] 60 (0, 0)) (blkU BK101.out) hb); have n1_ := asd (below_step hbs hb); have n2_ := asd (hbox); have n3_ := asd ((by rw [hg]; exact (below_size hbs) : w.heap.size ≤ gb102)); have n4_ := asd ((by rw [hg]; exact (below_size hbs) : w.heap.size ≤ gb102)); have n5_ := asd ((by rw [hg]; exact Nat.ne_of_lt (blk_lt (g := gb101) (o := .cells #[.bool a0_0, .slice A0_1 l0_1.length c0_1, .int .i64 a0_2] 60 (0, 0)) (blkU BK101.out)) : gb101 ≠ gb102)); have n6_ := asd ((by rw [hg]; exact Nat.ne_of_gt (blk_lt (g := gb101) (o := .cells #[.bool a0_0, .slice A0_1 l0_1.length c0_1, .int .i64 a0_2] 60 (0, 0)) (blkU BK101.out)) : gb102 ≠ gb101)); clear BK101; clear HB; have BK101 := n0_; have HB := n1_; have BK102 := n2_; have GW102 := n3_; have GE102 := n4_; have NB101_102 := n5_; have NB102_101 := n6_; clear n0_ n1_ n2_ n3_ n4_ n5_ n6_; clear hb hbox hg))
 (try simp only [Act.put, List.setIfInBounds_toArray, List.set_cons_zero, List.set_cons_succ])
 go_cut [14] (fun v14 wc => ∃ (kq : Nat) (x14_2 : Bool), v14 = .bool x14_2 ∧ Aside0 (dyad_far.j0 kq x14_2 a0_0 l0_1 a0_2 a1_0 l1_1 a1_2 = some r) ∧ Aside0 (kq ≤ k) ∧ Aside0 (wc.heap[gb101]? = some (.cells #[.bool a0_0, (.slice A0_1 l0_1.length c0_1), .int .i64 a0_2] 60 (0, 0))) ∧ Aside0 (wc.heap[gb102]? = some (.cells #[.bool a1_0, (.slice A1_1 l1_1.length c1_1), .int .i64 a1_2] 60 (0, 0))) ∧ Aside0 (Below w.heap.size w wc))
 case first =>
  have H := HC3.out
  clear HC3
  by_cases c6 : (l0_1.length : Int) = 0
  ·rw [if_pos c6] at H
   have c6b0 := beq_iff_eq.mpr c6
   have c6b1 := bne_eq_false_iff_eq.mpr c6
   clear c6
   (first | rw [c6b0] | (simp only [i64_w, i32_w]; rw [c6b0]) | skip)
   have H' := asd H
   clear H
   have hnb7 := NB101_102.out
   have hnc7 := NB102_101.out
   obtain ⟨hcz8_0, hcz8_1, hcz8_2, hfz8_0, hfz8_1, hfz8_2⟩ := cz3 BK101.out
   go_wp2
   go_meet
   case rel => exact ⟨_, (true), eqB, H', ⟨by first | omega | exact Nat.le_refl _⟩, ⟨by (with_reducible repeat (first | refine blk_drewN ?_ _ | refine blk_drew ?_ | refine blk_alloc ?_ _)); exact BK101.out⟩, ⟨by (with_reducible repeat (first | refine blk_drewN ?_ _ | refine blk_drew ?_ | refine blk_alloc ?_ _)); exact BK102.out⟩, ⟨hbs⟩⟩
  ·rw [if_neg c6] at H
   have c6b0 := beq_eq_false_iff_ne.mpr c6
   have c6b1 := bne_iff_ne.mpr c6
   have c6b2 : ¬ (l0_1 = []) := fun h_ => c6 (by rw [h_]; rfl)
   (first | rw [c6b0] | (simp only [i64_w, i32_w]; rw [c6b0]) | skip)
   have H' := asd H
   clear H
   have hnb9 := NB101_102.out
   have hnc9 := NB102_101.out
   obtain ⟨hcz10_0, hcz10_1, hcz10_2, hfz10_0, hfz10_1, hfz10_2⟩ := cz3 BK101.out
   obtain ⟨hcz11_0, hcz11_1, hcz11_2, hfz11_0, hfz11_1, hfz11_2⟩ := cz3 BK102.out
   go_wp2
   go_meet
   case rel => exact ⟨_, (((l1_1.length : Int) == 0)), eqB, H', ⟨by first | omega | exact Nat.le_refl _⟩, ⟨by (with_reducible repeat (first | refine blk_drewN ?_ _ | refine blk_drew ?_ | refine blk_alloc ?_ _)); exact BK101.out⟩, ⟨by (with_reducible repeat (first | refine blk_drewN ?_ _ | refine blk_drew ?_ | refine blk_alloc ?_ _)); exact BK102.out⟩, ⟨hbs⟩⟩
 case rest =>
  clear HC3
  try clear c1
  try clear p2
  try clear c6
  try clear c6b0
  try clear c6b1
  try clear c6b2
  try clear c7
  try clear c9
  try clear c10
  try clear hcz10_0
  try clear hcz10_1
  try clear hcz10_2
  try clear hcz11_0
  try clear hcz11_1
  try clear hcz11_2
  try clear hcz8_0
  try clear hcz8_1
  try clear hcz8_2
  try clear hfz10_0
  try clear hfz10_1
  try clear hfz10_2
  try clear hfz11_0
  try clear hfz11_1
  try clear hfz11_2
  try clear hfz8_0
  try clear hfz8_1
  try clear hfz8_2
  obtain ⟨kq, x14_2, rfl, HA, HJ2, BK101, BK102, HB⟩ := hcut
  cases kq with
  | zero => exact absurd HA.out (by simp [dyad_far.j0])
  | succ kj2 =>
   have H := HA.out
   clear HA
   simp only [dyad_far.j0] at H
   by_cases c12 : x14_2 = true
   ·subst c12
    rw [if_pos rfl] at H
    obtain rfl := Option.some.inj H
    go_wp2
    go_ret
    exact ⟨eqC, hbs⟩
   ·replace c12 := Bool.eq_false_iff.mpr c12
    subst c12
    rw [if_neg (show ¬ (false = true) by decide)] at H
    replace H := Option.bind_eq_some_iff.mp H
    obtain ⟨t103, A130, H⟩ := H
    have A13 := asd A130
    clear A130
    replace H := Option.bind_eq_some_iff.mp H
    obtain ⟨t104, A140, H⟩ := H
    have A14 := asd A140
    clear A140
    obtain ⟨ji15, hji15⟩ : ∃ j_ : Int, (mx t103 t104) = j_ := ⟨_, rfl⟩
    first | rw [hji15] at H | simp only [hji15] at H ⊢
    (try rw [hji15] at A13)
    (try rw [hji15] at A14)
    have hji15_ : (if t103 < t104 then t104 else t103) = ji15 := hji15
    obtain ⟨ji16, hji16⟩ : ∃ j_ : Int, (mn a0_2 a1_2) = j_ := ⟨_, rfl⟩
    first | rw [hji16] at H | simp only [hji16] at H ⊢
    (try rw [hji16] at A13)
    (try rw [hji16] at A14)
    have hji16_ : (if a1_2 < a0_2 then a1_2 else a0_2) = ji16 := hji16
    obtain rfl := Option.some.inj H
    try go_wp2
    have n0_ := asd (blk_drew BK101.out)
    have n1_ := asd (blk_drew BK102.out)
    have n2_ := asd (below_drew1 HB.out)
    clear BK101
    clear BK102
    clear HB
    have BK101 := n0_
    have BK102 := n1_
    have HB := n2_
    clear n0_ n1_ n2_
    refine start_ (n := 13) (S := fun w' => w'.cell? ⟨gb101, 0, none⟩ = some (.bool a0_0) ∧ w'.cell? ⟨gb101, 1, none⟩ = some (.slice A0_1 l0_1.length c0_1) ∧ w'.cell? ⟨gb101, 2, none⟩ = some (.int .i64 a0_2) ∧ w'.cell? ⟨gb102, 0, none⟩ = some (.bool a1_0) ∧ w'.cell? ⟨gb102, 1, none⟩ = some (.slice A1_1 l1_1.length c1_1) ∧ w'.cell? ⟨gb102, 2, none⟩ = some (.int .i64 a1_2)) (ds := []) #[false, false, false, false, false, false, false, false, false, false, false, false, false] (by kernel_rfl) rfl rfl ⟨(blk_cell BK101.out 0).trans rfl, (blk_cell BK101.out 1).trans rfl, (blk_cell BK101.out 2).trans rfl, (blk_cell BK102.out 0).trans rfl, (blk_cell BK102.out 1).trans rfl, (blk_cell BK102.out 2).trans rfl⟩ (fun hHeld => ?_); refine with_tabW dyad_far.tab3 dyad_far.bits3 (fun HT_ HW_ => ?_)
    generalize wc.drew = w17 at BK101 BK102 HB hHeld ⊢
    refine pure_ (i := 5) (N := some 20) (v := ?_) (a' := ?_) #[false, false, false, false, false, true, false, false, false, false, false, false, false] rfl rfl (any_of HT_.out (by kernel_rfl)) (fun _ _ _ h => h) (Or.inl ⟨by rfl, ?_⟩) ?_ ?_
    rotate_left
    ·intro w'
     go_simp
     with_reducible rfl
    rotate_left
    ·simp only [Act.put, List.setIfInBounds_toArray, List.set_cons_zero, List.set_cons_succ, i64_w, i32_w]
     rfl
    refine pure_ (i := 7) (N := some 22) (v := ?_) (a' := ?_) #[false, false, false, false, false, true, false, true, false, false, false, false, false] rfl rfl (any_of HT_.out (by kernel_rfl)) (fun _ _ _ h => h) (Or.inl ⟨by rfl, ?_⟩) ?_ ?_
    rotate_left
    ·intro w'
     go_simp
     with_reducible rfl
    rotate_left
    ·simp only [Act.put, List.setIfInBounds_toArray, List.set_cons_zero, List.set_cons_succ, i64_w, i32_w]
     rfl
    refine take_ (i := 0) (N := some 15) (v := ?_) (a' := ?_) #[true, false, false, false, false, true, false, true, false, false, false, false, false] rfl rfl (take_ofW HT_.out HW_.out (by kernel_rfl)) (fun _ _ _ h => h) (Or.inl ⟨by rfl, ?_⟩) hHeld ?_ ?_
    rotate_left
    ·rintro w' ⟨s0, s1, s2, s3, s4, s5⟩
     go_simp
     with_reducible rfl
    rotate_left
    ·simp only [Act.put, List.setIfInBounds_toArray, List.set_cons_zero, List.set_cons_succ, i64_w, i32_w]
     rfl
    refine take_ (i := 2) (N := some 17) (v := ?_) (a' := ?_) #[true, false, true, false, false, true, false, true, false, false, false, false, false] rfl rfl (take_ofW HT_.out HW_.out (by kernel_rfl)) (fun _ _ _ h => h) (Or.inl ⟨by rfl, ?_⟩) hHeld ?_ ?_
    rotate_left
    ·rintro w' ⟨s0, s1, s2, s3, s4, s5⟩
     go_simp
     with_reducible rfl
    rotate_left
    ·simp only [Act.put, List.setIfInBounds_toArray, List.set_cons_zero, List.set_cons_succ, i64_w, i32_w]
     rfl
    refine take_ (i := 6) (N := some 21) (v := ?_) (a' := ?_) #[true, false, true, false, false, true, true, true, false, false, false, false, false] rfl rfl (take_ofW HT_.out HW_.out (by kernel_rfl)) (fun _ _ _ h => h) (Or.inl ⟨by rfl, ?_⟩) hHeld ?_ ?_
    rotate_left
    ·rintro w' ⟨s0, s1, s2, s3, s4, s5⟩
     go_simp
     with_reducible rfl
    rotate_left
    ·simp only [Act.put, List.setIfInBounds_toArray, List.set_cons_zero, List.set_cons_succ, i64_w, i32_w]
     rfl
    refine take_ (i := 8) (N := some 23) (v := ?_) (a' := ?_) #[true, false, true, false, false, true, true, true, true, false, false, false, false] rfl rfl (take_ofW HT_.out HW_.out (by kernel_rfl)) (fun _ _ _ h => h) (Or.inl ⟨by rfl, ?_⟩) hHeld ?_ ?_
    rotate_left
    ·rintro w' ⟨s0, s1, s2, s3, s4, s5⟩
     go_simp
     with_reducible rfl
    rotate_left
    ·simp only [Act.put, List.setIfInBounds_toArray, List.set_cons_zero, List.set_cons_succ, i64_w, i32_w]
     rfl
    refine pure_ (i := 9) (N := some 24) (v := ?_) (a' := ?_) #[true, false, true, false, false, true, true, true, true, true, false, false, false] rfl rfl (any_of HT_.out (by kernel_rfl)) (fun _ _ _ h => h) (Or.inl ⟨by rfl, ?_⟩) ?_ ?_
    rotate_left
    ·intro w'
     go_simp
     with_reducible rfl
    rotate_left
    ·simp only [Act.put, List.setIfInBounds_toArray, List.set_cons_zero, List.set_cons_succ, i64_w, i32_w]
     rfl
    refine one_ (i := 1) (N := some 16) #[true, true, true, false, false, true, true, true, true, true, false, false, false] rfl rfl (one_of HT_.out (by kernel_rfl)) (by decide) (fun K hK => ?_)
    refine goes_ Tryz.func135 (by kernel_rfl) rfl #[.agg #[.bool a0_0, .slice A0_1 l0_1.length c0_1, .int .i64 a0_2]] (by rfl) rfl rfl eqA ?_
    with_reducible refine (dyad_Top.calls a0_0 _ _ l0_1 a0_2 t103 _ ?side1 ?side2 A13.out).mono ?_
    (case side1 => repeat (first | exact (Kd.C_below HR0_1.out HB.out) | (with_reducible refine Kd.C_alloc ?_ _) | (with_reducible refine Kd.C_drewN ?_ _) | (with_reducible refine Kd.C_drew ?_)))
    (case side2 => exact HC0_1.out)
    rintro e w18 ⟨rfl, hb⟩
    refine ⟨_, rfl, ?_⟩
    have n0_ := asd (blk_below (g := gb101) (o := .cells #[.bool a0_0, .slice A0_1 l0_1.length c0_1, .int .i64 a0_2] 60 (0, 0)) (blkU BK101.out) hb)
    have n1_ := asd (blk_below (g := gb102) (o := .cells #[.bool a1_0, .slice A1_1 l1_1.length c1_1, .int .i64 a1_2] 60 (0, 0)) (blkU BK102.out) hb)
    have n2_ := asd (below_step hbs hb)
    clear BK101
    clear BK102
    clear HB
    have BK101 := n0_
    have BK102 := n1_
    have HB := n2_
    clear n0_ n1_ n2_
    (try clear hb)
    (try clear hb2)
    (try clear hk)
    (try clear hi)
    refine hK.out _ _ ⟨(blk_cell BK101.out 0).trans rfl, (blk_cell BK101.out 1).trans rfl, (blk_cell BK101.out 2).trans rfl, (blk_cell BK102.out 0).trans rfl, (blk_cell BK102.out 1).trans rfl, (blk_cell BK102.out 2).trans rfl⟩ (fun hHeld => ?_)
    clear hK K
    refine norm_ (a' := ?_) ?_ ?_
    rotate_left
    ·show Act.put _ (some 16) _ = _
     simp only [Act.put, List.setIfInBounds_toArray, List.set_cons_zero, List.set_cons_succ, i64_w, i32_w]
     rfl
    refine one_ (i := 3) (N := some 18) #[true, true, true, true, false, true, true, true, true, true, false, false, false] rfl rfl (one_of HT_.out (by kernel_rfl)) (by decide) (fun K hK => ?_)
    refine goes_ Tryz.func135 (by kernel_rfl) rfl #[.agg #[.bool a1_0, .slice A1_1 l1_1.length c1_1, .int .i64 a1_2]] (by rfl) rfl rfl eqA ?_
    with_reducible refine (dyad_Top.calls a1_0 _ _ l1_1 a1_2 t104 _ ?side1 ?side2 A14.out).mono ?_
    (case side1 => repeat (first | exact (Kd.C_below HR1_1.out HB.out) | (with_reducible refine Kd.C_alloc ?_ _) | (with_reducible refine Kd.C_drewN ?_ _) | (with_reducible refine Kd.C_drew ?_)))
    (case side2 => exact HC1_1.out)
    rintro e w19 ⟨rfl, hb⟩
    refine ⟨_, rfl, ?_⟩
    have n0_ := asd (blk_below (g := gb101) (o := .cells #[.bool a0_0, .slice A0_1 l0_1.length c0_1, .int .i64 a0_2] 60 (0, 0)) (blkU BK101.out) hb)
    have n1_ := asd (blk_below (g := gb102) (o := .cells #[.bool a1_0, .slice A1_1 l1_1.length c1_1, .int .i64 a1_2] 60 (0, 0)) (blkU BK102.out) hb)
    have n2_ := asd (below_step hbs hb)
    clear BK101
    clear BK102
    clear HB
    have BK101 := n0_
    have BK102 := n1_
    have HB := n2_
    clear n0_ n1_ n2_
    (try clear hb)
    (try clear hb2)
    (try clear hk)
    (try clear hi)
    refine hK.out _ _ ⟨(blk_cell BK101.out 0).trans rfl, (blk_cell BK101.out 1).trans rfl, (blk_cell BK101.out 2).trans rfl, (blk_cell BK102.out 0).trans rfl, (blk_cell BK102.out 1).trans rfl, (blk_cell BK102.out 2).trans rfl⟩ (fun hHeld => ?_)
    clear hK K
    refine norm_ (a' := ?_) ?_ ?_
    rotate_left
    ·show Act.put _ (some 18) _ = _
     simp only [Act.put, List.setIfInBounds_toArray, List.set_cons_zero, List.set_cons_succ, i64_w, i32_w]
     rfl
    refine pure_ (i := 4) (N := some 19) (v := ?_) (a' := ?_) #[true, true, true, true, true, true, true, true, true, true, false, false, false] rfl rfl (any_of HT_.out (by kernel_rfl)) (fun _ _ _ h => h) (Or.inl ⟨by rfl, ?_⟩) ?_ ?_
    rotate_left
    ·intro w'
     go_simp
     with_reducible rfl
    rotate_left
    ·simp only [Act.put, List.setIfInBounds_toArray, List.set_cons_zero, List.set_cons_succ, i64_w, i32_w]
     rfl
    refine pure_ (i := 10) (N := some 25) (v := ?_) (a' := ?_) #[true, true, true, true, true, true, true, true, true, true, true, false, false] rfl rfl (any_of HT_.out (by kernel_rfl)) (fun _ _ _ h => h) (Or.inl ⟨by rfl, ?_⟩) ?_ ?_
    rotate_left
    ·intro w'
     go_simp
     with_reducible rfl
    rotate_left
    ·simp only [Act.put, List.setIfInBounds_toArray, List.set_cons_zero, List.set_cons_succ, i64_w, i32_w]
     rfl
    refine pure_ (i := 11) (N := some 26) (v := ?_) (a' := ?_) #[true, true, true, true, true, true, true, true, true, true, true, true, false] rfl rfl (any_of HT_.out (by kernel_rfl)) (fun _ _ _ h => h) (Or.inl ⟨by rfl, ?_⟩) ?_ ?_
    rotate_left
    ·intro w'
     go_simp
     with_reducible rfl
    rotate_left
    ·simp only [Act.put, List.setIfInBounds_toArray, List.set_cons_zero, List.set_cons_succ, i64_w, i32_w]
     rfl
    refine pure_ (i := 12) (N := some 4) (v := ?_) (a' := ?_) #[true, true, true, true, true, true, true, true, true, true, true, true, true] rfl rfl (any_of HT_.out (by kernel_rfl)) (fun _ _ _ h => h) (Or.inl ⟨by rfl, ?_⟩) ?_ ?_
    rotate_left
    ·intro w'
     go_simp
     with_reducible rfl
    rotate_left
    ·simp only [Act.put, List.setIfInBounds_toArray, List.set_cons_zero, List.set_cons_succ, i64_w, i32_w]
     rfl
    refine done_ (done_of HT_.out (by kernel_rfl)) ?_
    try go_wp2
    go_ret
    exact ⟨by first | rfl | (simp [errW_none, errW_some] <;> rfl) | (simp only [← hji15, ← hji16]; first | rfl | (simp [errW_none, errW_some] <;> rfl)) | (simp [*, errW_none, errW_some] <;> rfl), hbs⟩
end Go.Proofs.YthmeocigliephaaGreatDoor.PNe
end
section
namespace Go.Proofs.YthmeocigliephaaGreatDoor.Big
open Go.Proofs.YthmeocigliephaaGreatDoor.PNa Go.Proofs.YthmeocigliephaaGreatDoor.Plain
attribute [local go_sem] max2_int min2_int max_two min_two
def Level (X Y e : Int) (w : World) (r : Ending) (w' : World) : Prop :=
  ∃ bx b2, r = .returned (.tuple #[.pointer (some ⟨bx, 0, none⟩), .pointer (some ⟨b2, 0, none⟩), .int .i64 e]) ∧ IntV w' bx X ∧ IntV w' b2 Y ∧ Below w.heap.size w w' ∧ w.heap.size ≤ bx ∧ w.heap.size ≤ b2 ∧ bx ≠ b2
theorem short_words {l : List Int} (hg : Dg l) (hl : l.length ≤ 2048) : Short (val l) := by
  have := dig_length_le_of hg
  unfold Short; omega
theorem Lsh0_calls (z x : Nat) (v : Int) (w : World) (hz : ZB w z) (hx : IntV w x v) (hs : Short v.natAbs) :
    Calls Tryz.prog 136 #[.pointer (some ⟨z, 0, none⟩), .pointer (some ⟨x, 0, none⟩), .int .u64 0] w (Gave z v w) := by
  have := Lsh_calls z x 0 v w hz hx hs (by omega)
  rwa [Int.pow_zero, Int.mul_one] at this
theorem numB_new2 (w : World) (o : Obj) (n : Bool) (v : Value) (e : Int) : NumB ((w.alloc o).alloc (.cells #[.bool n, v, .int .i64 e] 60 (0, 0))) (w.heap.size + 1) n v e := by
  unfold NumB; rw [show w.heap.size + 1 = (w.alloc o).heap.size by simp]; exact blk_new _ _
def lvl (na : Bool) (la : List Int) (ea : Int) (nb : Bool) (lb : List Int) (eb : Int) : Int × Int × Int :=
  if val la = 0 then (if val lb = 0 then (0, 0, ea) else (0, zv nb lb, eb))
  else if val lb = 0 then (zv na la, 0, ea) else (zv na la * 2 ^ (ea - mn ea eb).toNat, zv nb lb * 2 ^ (eb - mn ea eb).toNat, mn ea eb)
section
variable (na : Bool) (la : List Int) (ea : Int) (A : Option Addr) (c : Nat) (nb : Bool) (lb : List Int) (eb : Int) (B : Option Addr) (d : Nat) (w : World)
  (hda : DigS w la A c) (hga : Dg la) (hla : la.length ≤ 2048) (ha0 : -65536 ≤ ea) (ha1 : ea ≤ 65536)
  (hdb : DigS w lb B d) (hgb : Dg lb) (hlb : lb.length ≤ 2048) (hb0 : -65536 ≤ eb) (hb1 : eb ≤ 65536)
include hda hga hla ha0 ha1 hdb hgb hlb hb0 hb1
theorem level_both (hx : val la ≠ 0) (hy : val lb ≠ 0) :
    Calls Tryz.prog 106 #[.agg #[.bool na, .slice A la.length c, .int .i64 ea], .agg #[.bool nb, .slice B lb.length d, .int .i64 eb]] w
      (Level (zv na la * 2 ^ (ea - mn ea eb).toNat) (zv nb lb * 2 ^ (eb - mn ea eb).toNat) (mn ea eb) w) := by
  obtain ⟨M, hM⟩ : ∃ M, mn ea eb = M := ⟨_, rfl⟩
  have hM1 : M ≤ ea := by rw [← hM]; unfold mn; split <;> omega
  have hM2 : M ≤ eb := by rw [← hM]; unfold mn; split <;> omega
  have hM3 : -65536 ≤ M := by rw [← hM]; unfold mn; split <;> omega
  have hsx : ((zv na la).sign == (0 : Int)) = false := by simp; intro h; have := congrArg Int.natAbs h; rw [zv_natAbs] at this; exact hx this
  have hsy : ((zv nb lb).sign == (0 : Int)) = false := by simp; intro h; have := congrArg Int.natAbs h; rw [zv_natAbs] at this; exact hy this
  have hsx' : ((zv na la).sign != (0 : Int)) = true := by rw [bne, hsx]; rfl
  have hsy' : ((zv nb lb).sign != (0 : Int)) = true := by rw [bne, hsy]; rfl
  have HSX := asd (show Short (zv na la).natAbs by rw [zv_natAbs]; exact short_words hga hla)
  have HSY := asd (show Short (zv nb lb).natAbs by rw [zv_natAbs]; exact short_words hgb hlb)
  obtain ⟨x, hxx⟩ : ∃ x, zv na la = x := ⟨_, rfl⟩
  obtain ⟨y, hyy⟩ : ∃ y, zv nb lb = y := ⟨_, rfl⟩
  obtain ⟨ka, hka⟩ : ∃ ka : Nat, ea - M = (ka : Int) := ⟨(ea - M).toNat, by omega⟩
  obtain ⟨kb, hkb⟩ : ∃ kb : Nat, eb - M = (kb : Int) := ⟨(eb - M).toNat, by omega⟩
  rw [hxx] at hsx hsx' HSX ⊢
  rw [hyy] at hsy hsy' HSY ⊢
  rw [hM, hka, hkb, Int.toNat_natCast, Int.toNat_natCast]
  unfold mn at hM
  have HX := asd hxx
  have HY := asd hyy
  have hka2 : (ka : Int) ≤ 131072 := by omega
  have hkb2 : (kb : Int) ≤ 131072 := by omega
  have hka0 : (0 : Int) ≤ (ka : Int) := by omega
  have hkb0 : (0 : Int) ≤ (kb : Int) := by omega
  have KA := asd (show ka < 562949953421312 by omega)
  have KB := asd (show kb < 562949953421312 by omega)
  have DA := asd hda
  have GA := asd hga
  have LA := asd (show la.length < 17592186044415 by omega)
  have DB := asd hdb
  have GB := asd hgb
  have LB := asd (show lb.length < 17592186044415 by omega)
  have B1 := asd (((Below.refl w.heap.size w).alloc (Nat.le_refl _) (.cells #[.bool na, .slice A la.length c, .int .i64 ea] 60 (0, 0))).alloc (by simp) (.cells #[.bool nb, .slice B lb.length d, .int .i64 eb] 60 (0, 0)))
  have N1 := (show NumB ((w.alloc (.cells #[.bool na, .slice A la.length c, .int .i64 ea] 60 (0, 0))).alloc (.cells #[.bool nb, .slice B lb.length d, .int .i64 eb] 60 (0, 0))) w.heap.size na (.slice A la.length c) ea from blk_alloc (blk_new _ _) _)
  have N2 := (show NumB ((w.alloc (.cells #[.bool na, .slice A la.length c, .int .i64 ea] 60 (0, 0))).alloc (.cells #[.bool nb, .slice B lb.length d, .int .i64 eb] 60 (0, 0))) (w.heap.size + 1) nb (.slice B lb.length d) eb from numB_new2 _ _ _ _ _)
  have a0 := N1.c0
  have a1 := N1.c1
  have a2 := N1.c2
  have b0 := N2.c0
  have b1 := N2.c1
  have b2 := N2.c2
  have la1 := blk_lt N1
  have lb1 := blk_lt N2
  clear hda hga hla hdb hgb hlb hx hy hxx hyy N1 N2
  have tok1 : True := trivial
  go_enter Tryz.func106, Tryz.ntmps106
  go_wp2_with fail
  go_region_held3 (fun w' => w'.cell? ⟨w.heap.size, 0, none⟩ = some (.bool na) ∧ w'.cell? ⟨w.heap.size, 1, none⟩ = some (.slice A la.length c) ∧ w'.cell? ⟨w.heap.size, 2, none⟩ = some (.int .i64 ea) ∧ w'.cell? ⟨w.heap.size + 1, 0, none⟩ = some (.bool nb) ∧ w'.cell? ⟨w.heap.size + 1, 1, none⟩ = some (.slice B lb.length d) ∧ w'.cell? ⟨w.heap.size + 1, 2, none⟩ = some (.int .i64 eb))
    (first | exact ⟨a0, a1, a2, b0, b1, b2⟩ | exact S2.out | exact S1.out | go_keep)
    ((first
      | (go_at_call 93; have _t := tok1; refine (value_any na la ea A c _ (DA.out.below (by exact B1.out.drew)) GA.out LA.out).mono ?_; rw [HX.out]; rintro e1 w3 ⟨bx, rfl, i3, b3, n3⟩; have S1 := asd (show w3.cell? ⟨w.heap.size, 0, none⟩ = some (.bool na) ∧ w3.cell? ⟨w.heap.size, 1, none⟩ = some (.slice A la.length c) ∧ w3.cell? ⟨w.heap.size, 2, none⟩ = some (.int .i64 ea) ∧ w3.cell? ⟨w.heap.size + 1, 0, none⟩ = some (.bool nb) ∧ w3.cell? ⟨w.heap.size + 1, 1, none⟩ = some (.slice B lb.length d) ∧ w3.cell? ⟨w.heap.size + 1, 2, none⟩ = some (.int .i64 eb) from ⟨(b3.cell (p := ⟨w.heap.size, 0, none⟩) la1).trans a0, (b3.cell (p := ⟨w.heap.size, 1, none⟩) la1).trans a1, (b3.cell (p := ⟨w.heap.size, 2, none⟩) la1).trans a2, (b3.cell (p := ⟨w.heap.size + 1, 0, none⟩) lb1).trans b0, (b3.cell (p := ⟨w.heap.size + 1, 1, none⟩) lb1).trans b1, (b3.cell (p := ⟨w.heap.size + 1, 2, none⟩) lb1).trans b2⟩); have B3 := asd (below_post b3 (by exact B1.out.drew)); have I3 := asd i3; have G3 := asd (show w.heap.size + 2 ≤ bx from Nat.le_trans (by simp) n3); have la3 : w.heap.size < w3.heap.size := Nat.lt_of_lt_of_le la1 b3.size; have lb3 : w.heap.size + 1 < w3.heap.size := Nat.lt_of_lt_of_le lb1 b3.size; clear b3 n3 i3 tok1 _t)
      | (go_at_call 93; refine (value_any nb lb eb B d _ (DB.out.below B3.out) GB.out LB.out).mono ?_; rw [HY.out]; rintro e1 w4 ⟨b2', rfl, i4, b4, n4⟩; have S2 := asd (show w4.cell? ⟨w.heap.size, 0, none⟩ = some (.bool na) ∧ w4.cell? ⟨w.heap.size, 1, none⟩ = some (.slice A la.length c) ∧ w4.cell? ⟨w.heap.size, 2, none⟩ = some (.int .i64 ea) ∧ w4.cell? ⟨w.heap.size + 1, 0, none⟩ = some (.bool nb) ∧ w4.cell? ⟨w.heap.size + 1, 1, none⟩ = some (.slice B lb.length d) ∧ w4.cell? ⟨w.heap.size + 1, 2, none⟩ = some (.int .i64 eb) from ⟨(b4.cell (p := ⟨w.heap.size, 0, none⟩) la3).trans S1.out.1, (b4.cell (p := ⟨w.heap.size, 1, none⟩) la3).trans S1.out.2.1, (b4.cell (p := ⟨w.heap.size, 2, none⟩) la3).trans S1.out.2.2.1, (b4.cell (p := ⟨w.heap.size + 1, 0, none⟩) lb3).trans S1.out.2.2.2.1, (b4.cell (p := ⟨w.heap.size + 1, 1, none⟩) lb3).trans S1.out.2.2.2.2.1, (b4.cell (p := ⟨w.heap.size + 1, 2, none⟩) lb3).trans S1.out.2.2.2.2.2⟩); have B4 := asd (below_post b4 B3.out); have I4 := asd (I3.out.below b4); have J4 := asd i4; have G4 := asd (show w.heap.size + 2 ≤ b2' from by omega); have NE := asd (show bx ≠ b2' from fun e => by have := I3.out.lt; omega); clear b4 n4 i4)))
  all_goals
    have tok2 : True := trivial
    go_wp2_with (first
      | (go_at_call 130; (with_reducible refine (sign_any' bx x x.sign _ I4.out rfl).mono ?_); rintro e1 w1 ⟨rfl, rfl⟩)
      | (go_at_call 130; (with_reducible refine (sign_any' b2' y y.sign _ J4.out rfl).mono ?_); rintro e1 w1 ⟨rfl, rfl⟩)
      | (go_at_call 130; (with_reducible refine (sign_any' b2' y y.sign _ J5.out rfl).mono ?_); rintro e1 w1 ⟨rfl, rfl⟩)
      | (go_at_call 136; have _t := tok2; refine (Lsh_calls bx bx ka x _ I4.out.z I4.out HSX.out KA.out).mono ?_; rintro e1 w5 ⟨rfl, o5, i5⟩; have J5 := asd (J4.out.only o5 (.inl I4.out.z) (Ne.symm NE.out)); have I5 := asd i5; have S5 := asd (show w5.cell? ⟨w.heap.size, 2, none⟩ = some (.int .i64 ea) ∧ w5.cell? ⟨w.heap.size + 1, 2, none⟩ = some (.int .i64 eb) from ⟨(only_cell o5 (by have := G3.out; omega) (by have := G3.out; have := I4.out.lt; omega) 2).trans S2.out.2.2.1, (only_cell o5 (by have := G3.out; omega) (by have := G3.out; have := I4.out.lt; omega) 2).trans S2.out.2.2.2.2.2⟩); have s5a := S5.out.1; have s5b := S5.out.2; have B5 := asd (below_only B4.out o5 B4.out.size (by have := G3.out; omega)); clear o5 i5 tok2 _t)
      | (go_at_call 136; refine (Lsh_calls b2' b2' kb y _ J5.out.z J5.out HSY.out KB.out).mono ?_; rintro e1 w6 ⟨rfl, o6, j6⟩; have I6 := asd (I5.out.only o6 (.inl J5.out.z) NE.out); have J6 := asd j6; have B6 := asd (below_only B5.out o6 B5.out.size (by have := G4.out; omega)); clear o6 j6))
    go_ret3
    exact ⟨bx, b2', rfl, I6.out, J6.out, B6.out, by have := G3.out; omega, by have := G4.out; omega, NE.out⟩
theorem level_zz (hx : val la = 0) (hy : val lb = 0) :
    Calls Tryz.prog 106 #[.agg #[.bool na, .slice A la.length c, .int .i64 ea], .agg #[.bool nb, .slice B lb.length d, .int .i64 eb]] w
      (Level 0 0 ea w) := by
  obtain ⟨M, hM⟩ : ∃ M, mn ea eb = M := ⟨_, rfl⟩
  have hM1 : M ≤ ea := by rw [← hM]; unfold mn; split <;> omega
  have hM2 : M ≤ eb := by rw [← hM]; unfold mn; split <;> omega
  have hM3 : -65536 ≤ M := by rw [← hM]; unfold mn; split <;> omega
  have hx0 : zv na la = 0 := by unfold zv; rw [hx]; cases na <;> rfl
  have hsx : ((zv na la).sign == (0 : Int)) = true := by rw [hx0]; rfl
  have hy0 : zv nb lb = 0 := by unfold zv; rw [hy]; cases nb <;> rfl
  have hsy : ((zv nb lb).sign == (0 : Int)) = true := by rw [hy0]; rfl
  have hsx' : ((zv na la).sign != (0 : Int)) = false := by rw [bne, hsx]; rfl
  have hsy' : ((zv nb lb).sign != (0 : Int)) = false := by rw [bne, hsy]; rfl
  have HSX := asd (show Short (zv na la).natAbs by rw [zv_natAbs]; exact short_words hga hla)
  have HSY := asd (show Short (zv nb lb).natAbs by rw [zv_natAbs]; exact short_words hgb hlb)
  obtain ⟨x, hxx⟩ : ∃ x, zv na la = x := ⟨_, rfl⟩
  obtain ⟨y, hyy⟩ : ∃ y, zv nb lb = y := ⟨_, rfl⟩
  obtain ⟨ka, hka⟩ : ∃ ka : Nat, ea - M = (ka : Int) := ⟨(ea - M).toNat, by omega⟩
  obtain ⟨kb, hkb⟩ : ∃ kb : Nat, eb - M = (kb : Int) := ⟨(eb - M).toNat, by omega⟩
  rw [hxx] at hsx hsx' HSX hx0
  have HX0 := asd hx0
  clear hx0
  rw [hyy] at hsy hsy' HSY hy0
  have HY0 := asd hy0
  clear hy0
  unfold mn at hM
  have HX := asd hxx
  have HY := asd hyy
  have hka2 : (ka : Int) ≤ 131072 := by omega
  have hkb2 : (kb : Int) ≤ 131072 := by omega
  have hka0 : (0 : Int) ≤ (ka : Int) := by omega
  have hkb0 : (0 : Int) ≤ (kb : Int) := by omega
  have KA := asd (show ka < 562949953421312 by omega)
  have KB := asd (show kb < 562949953421312 by omega)
  have DA := asd hda
  have GA := asd hga
  have LA := asd (show la.length < 17592186044415 by omega)
  have DB := asd hdb
  have GB := asd hgb
  have LB := asd (show lb.length < 17592186044415 by omega)
  have B1 := asd (((Below.refl w.heap.size w).alloc (Nat.le_refl _) (.cells #[.bool na, .slice A la.length c, .int .i64 ea] 60 (0, 0))).alloc (by simp) (.cells #[.bool nb, .slice B lb.length d, .int .i64 eb] 60 (0, 0)))
  have N1 := (show NumB ((w.alloc (.cells #[.bool na, .slice A la.length c, .int .i64 ea] 60 (0, 0))).alloc (.cells #[.bool nb, .slice B lb.length d, .int .i64 eb] 60 (0, 0))) w.heap.size na (.slice A la.length c) ea from blk_alloc (blk_new _ _) _)
  have N2 := (show NumB ((w.alloc (.cells #[.bool na, .slice A la.length c, .int .i64 ea] 60 (0, 0))).alloc (.cells #[.bool nb, .slice B lb.length d, .int .i64 eb] 60 (0, 0))) (w.heap.size + 1) nb (.slice B lb.length d) eb from numB_new2 _ _ _ _ _)
  have a0 := N1.c0
  have a1 := N1.c1
  have a2 := N1.c2
  have b0 := N2.c0
  have b1 := N2.c1
  have b2 := N2.c2
  have la1 := blk_lt N1
  have lb1 := blk_lt N2
  clear hda hga hla hdb hgb hlb hx hy hxx hyy N1 N2
  have tok1 : True := trivial
  go_enter Tryz.func106, Tryz.ntmps106
  go_wp2_with fail
  go_region_held3 (fun w' => w'.cell? ⟨w.heap.size, 0, none⟩ = some (.bool na) ∧ w'.cell? ⟨w.heap.size, 1, none⟩ = some (.slice A la.length c) ∧ w'.cell? ⟨w.heap.size, 2, none⟩ = some (.int .i64 ea) ∧ w'.cell? ⟨w.heap.size + 1, 0, none⟩ = some (.bool nb) ∧ w'.cell? ⟨w.heap.size + 1, 1, none⟩ = some (.slice B lb.length d) ∧ w'.cell? ⟨w.heap.size + 1, 2, none⟩ = some (.int .i64 eb))
    (first | exact ⟨a0, a1, a2, b0, b1, b2⟩ | exact S2.out | exact S1.out | go_keep)
    ((first
      | (go_at_call 93; have _t := tok1; refine (value_any na la ea A c _ (DA.out.below (by exact B1.out.drew)) GA.out LA.out).mono ?_; rw [HX.out]; rintro e1 w3 ⟨bx, rfl, i3, b3, n3⟩; have S1 := asd (show w3.cell? ⟨w.heap.size, 0, none⟩ = some (.bool na) ∧ w3.cell? ⟨w.heap.size, 1, none⟩ = some (.slice A la.length c) ∧ w3.cell? ⟨w.heap.size, 2, none⟩ = some (.int .i64 ea) ∧ w3.cell? ⟨w.heap.size + 1, 0, none⟩ = some (.bool nb) ∧ w3.cell? ⟨w.heap.size + 1, 1, none⟩ = some (.slice B lb.length d) ∧ w3.cell? ⟨w.heap.size + 1, 2, none⟩ = some (.int .i64 eb) from ⟨(b3.cell (p := ⟨w.heap.size, 0, none⟩) la1).trans a0, (b3.cell (p := ⟨w.heap.size, 1, none⟩) la1).trans a1, (b3.cell (p := ⟨w.heap.size, 2, none⟩) la1).trans a2, (b3.cell (p := ⟨w.heap.size + 1, 0, none⟩) lb1).trans b0, (b3.cell (p := ⟨w.heap.size + 1, 1, none⟩) lb1).trans b1, (b3.cell (p := ⟨w.heap.size + 1, 2, none⟩) lb1).trans b2⟩); have B3 := asd (below_post b3 (by exact B1.out.drew)); have I3 := asd i3; have G3 := asd (show w.heap.size + 2 ≤ bx from Nat.le_trans (by simp) n3); have la3 : w.heap.size < w3.heap.size := Nat.lt_of_lt_of_le la1 b3.size; have lb3 : w.heap.size + 1 < w3.heap.size := Nat.lt_of_lt_of_le lb1 b3.size; clear b3 n3 i3 tok1 _t)
      | (go_at_call 93; refine (value_any nb lb eb B d _ (DB.out.below B3.out) GB.out LB.out).mono ?_; rw [HY.out]; rintro e1 w4 ⟨b2', rfl, i4, b4, n4⟩; have S2 := asd (show w4.cell? ⟨w.heap.size, 0, none⟩ = some (.bool na) ∧ w4.cell? ⟨w.heap.size, 1, none⟩ = some (.slice A la.length c) ∧ w4.cell? ⟨w.heap.size, 2, none⟩ = some (.int .i64 ea) ∧ w4.cell? ⟨w.heap.size + 1, 0, none⟩ = some (.bool nb) ∧ w4.cell? ⟨w.heap.size + 1, 1, none⟩ = some (.slice B lb.length d) ∧ w4.cell? ⟨w.heap.size + 1, 2, none⟩ = some (.int .i64 eb) from ⟨(b4.cell (p := ⟨w.heap.size, 0, none⟩) la3).trans S1.out.1, (b4.cell (p := ⟨w.heap.size, 1, none⟩) la3).trans S1.out.2.1, (b4.cell (p := ⟨w.heap.size, 2, none⟩) la3).trans S1.out.2.2.1, (b4.cell (p := ⟨w.heap.size + 1, 0, none⟩) lb3).trans S1.out.2.2.2.1, (b4.cell (p := ⟨w.heap.size + 1, 1, none⟩) lb3).trans S1.out.2.2.2.2.1, (b4.cell (p := ⟨w.heap.size + 1, 2, none⟩) lb3).trans S1.out.2.2.2.2.2⟩); have B4 := asd (below_post b4 B3.out); have I4 := asd (I3.out.below b4); have J4 := asd i4; have G4 := asd (show w.heap.size + 2 ≤ b2' from by omega); have NE := asd (show bx ≠ b2' from fun e => by have := I3.out.lt; omega); clear b4 n4 i4)))
  all_goals
    go_wp2_with (first
      | (go_at_call 130; (with_reducible refine (sign_any' bx x x.sign _ I4.out rfl).mono ?_); rintro e1 w1 ⟨rfl, rfl⟩)
      | (go_at_call 130; (with_reducible refine (sign_any' b2' y y.sign _ J4.out rfl).mono ?_); rintro e1 w1 ⟨rfl, rfl⟩))
    go_ret3
    exact ⟨bx, b2', rfl, by have := I4.out; rwa [HX0.out] at this, by have := J4.out; rwa [HY0.out] at this, B4.out, by have := G3.out; omega, by have := G4.out; omega, NE.out⟩
theorem level_zn (hx : val la = 0) (hy : val lb ≠ 0) :
    Calls Tryz.prog 106 #[.agg #[.bool na, .slice A la.length c, .int .i64 ea], .agg #[.bool nb, .slice B lb.length d, .int .i64 eb]] w
      (Level 0 (zv nb lb) eb w) := by
  obtain ⟨M, hM⟩ : ∃ M, mn ea eb = M := ⟨_, rfl⟩
  have hM1 : M ≤ ea := by rw [← hM]; unfold mn; split <;> omega
  have hM2 : M ≤ eb := by rw [← hM]; unfold mn; split <;> omega
  have hM3 : -65536 ≤ M := by rw [← hM]; unfold mn; split <;> omega
  have hx0 : zv na la = 0 := by unfold zv; rw [hx]; cases na <;> rfl
  have hsx : ((zv na la).sign == (0 : Int)) = true := by rw [hx0]; rfl
  have hsy : ((zv nb lb).sign == (0 : Int)) = false := by simp; intro h; have := congrArg Int.natAbs h; rw [zv_natAbs] at this; exact hy this
  have hsx' : ((zv na la).sign != (0 : Int)) = false := by rw [bne, hsx]; rfl
  have hsy' : ((zv nb lb).sign != (0 : Int)) = true := by rw [bne, hsy]; rfl
  have HSX := asd (show Short (zv na la).natAbs by rw [zv_natAbs]; exact short_words hga hla)
  have HSY := asd (show Short (zv nb lb).natAbs by rw [zv_natAbs]; exact short_words hgb hlb)
  obtain ⟨x, hxx⟩ : ∃ x, zv na la = x := ⟨_, rfl⟩
  obtain ⟨y, hyy⟩ : ∃ y, zv nb lb = y := ⟨_, rfl⟩
  obtain ⟨ka, hka⟩ : ∃ ka : Nat, ea - M = (ka : Int) := ⟨(ea - M).toNat, by omega⟩
  obtain ⟨kb, hkb⟩ : ∃ kb : Nat, eb - M = (kb : Int) := ⟨(eb - M).toNat, by omega⟩
  rw [hxx] at hsx hsx' HSX hx0
  have HX0 := asd hx0
  clear hx0
  rw [hyy] at hsy hsy' HSY ⊢
  unfold mn at hM
  have HX := asd hxx
  have HY := asd hyy
  have hka2 : (ka : Int) ≤ 131072 := by omega
  have hkb2 : (kb : Int) ≤ 131072 := by omega
  have hka0 : (0 : Int) ≤ (ka : Int) := by omega
  have hkb0 : (0 : Int) ≤ (kb : Int) := by omega
  have KA := asd (show ka < 562949953421312 by omega)
  have KB := asd (show kb < 562949953421312 by omega)
  have DA := asd hda
  have GA := asd hga
  have LA := asd (show la.length < 17592186044415 by omega)
  have DB := asd hdb
  have GB := asd hgb
  have LB := asd (show lb.length < 17592186044415 by omega)
  have B1 := asd (((Below.refl w.heap.size w).alloc (Nat.le_refl _) (.cells #[.bool na, .slice A la.length c, .int .i64 ea] 60 (0, 0))).alloc (by simp) (.cells #[.bool nb, .slice B lb.length d, .int .i64 eb] 60 (0, 0)))
  have N1 := (show NumB ((w.alloc (.cells #[.bool na, .slice A la.length c, .int .i64 ea] 60 (0, 0))).alloc (.cells #[.bool nb, .slice B lb.length d, .int .i64 eb] 60 (0, 0))) w.heap.size na (.slice A la.length c) ea from blk_alloc (blk_new _ _) _)
  have N2 := (show NumB ((w.alloc (.cells #[.bool na, .slice A la.length c, .int .i64 ea] 60 (0, 0))).alloc (.cells #[.bool nb, .slice B lb.length d, .int .i64 eb] 60 (0, 0))) (w.heap.size + 1) nb (.slice B lb.length d) eb from numB_new2 _ _ _ _ _)
  have a0 := N1.c0
  have a1 := N1.c1
  have a2 := N1.c2
  have b0 := N2.c0
  have b1 := N2.c1
  have b2 := N2.c2
  have la1 := blk_lt N1
  have lb1 := blk_lt N2
  clear hda hga hla hdb hgb hlb hx hy hxx hyy N1 N2
  have tok1 : True := trivial
  go_enter Tryz.func106, Tryz.ntmps106
  go_wp2_with fail
  go_region_held3 (fun w' => w'.cell? ⟨w.heap.size, 0, none⟩ = some (.bool na) ∧ w'.cell? ⟨w.heap.size, 1, none⟩ = some (.slice A la.length c) ∧ w'.cell? ⟨w.heap.size, 2, none⟩ = some (.int .i64 ea) ∧ w'.cell? ⟨w.heap.size + 1, 0, none⟩ = some (.bool nb) ∧ w'.cell? ⟨w.heap.size + 1, 1, none⟩ = some (.slice B lb.length d) ∧ w'.cell? ⟨w.heap.size + 1, 2, none⟩ = some (.int .i64 eb))
    (first | exact ⟨a0, a1, a2, b0, b1, b2⟩ | exact S2.out | exact S1.out | go_keep)
    ((first
      | (go_at_call 93; have _t := tok1; refine (value_any na la ea A c _ (DA.out.below (by exact B1.out.drew)) GA.out LA.out).mono ?_; rw [HX.out]; rintro e1 w3 ⟨bx, rfl, i3, b3, n3⟩; have S1 := asd (show w3.cell? ⟨w.heap.size, 0, none⟩ = some (.bool na) ∧ w3.cell? ⟨w.heap.size, 1, none⟩ = some (.slice A la.length c) ∧ w3.cell? ⟨w.heap.size, 2, none⟩ = some (.int .i64 ea) ∧ w3.cell? ⟨w.heap.size + 1, 0, none⟩ = some (.bool nb) ∧ w3.cell? ⟨w.heap.size + 1, 1, none⟩ = some (.slice B lb.length d) ∧ w3.cell? ⟨w.heap.size + 1, 2, none⟩ = some (.int .i64 eb) from ⟨(b3.cell (p := ⟨w.heap.size, 0, none⟩) la1).trans a0, (b3.cell (p := ⟨w.heap.size, 1, none⟩) la1).trans a1, (b3.cell (p := ⟨w.heap.size, 2, none⟩) la1).trans a2, (b3.cell (p := ⟨w.heap.size + 1, 0, none⟩) lb1).trans b0, (b3.cell (p := ⟨w.heap.size + 1, 1, none⟩) lb1).trans b1, (b3.cell (p := ⟨w.heap.size + 1, 2, none⟩) lb1).trans b2⟩); have B3 := asd (below_post b3 (by exact B1.out.drew)); have I3 := asd i3; have G3 := asd (show w.heap.size + 2 ≤ bx from Nat.le_trans (by simp) n3); have la3 : w.heap.size < w3.heap.size := Nat.lt_of_lt_of_le la1 b3.size; have lb3 : w.heap.size + 1 < w3.heap.size := Nat.lt_of_lt_of_le lb1 b3.size; clear b3 n3 i3 tok1 _t)
      | (go_at_call 93; refine (value_any nb lb eb B d _ (DB.out.below B3.out) GB.out LB.out).mono ?_; rw [HY.out]; rintro e1 w4 ⟨b2', rfl, i4, b4, n4⟩; have S2 := asd (show w4.cell? ⟨w.heap.size, 0, none⟩ = some (.bool na) ∧ w4.cell? ⟨w.heap.size, 1, none⟩ = some (.slice A la.length c) ∧ w4.cell? ⟨w.heap.size, 2, none⟩ = some (.int .i64 ea) ∧ w4.cell? ⟨w.heap.size + 1, 0, none⟩ = some (.bool nb) ∧ w4.cell? ⟨w.heap.size + 1, 1, none⟩ = some (.slice B lb.length d) ∧ w4.cell? ⟨w.heap.size + 1, 2, none⟩ = some (.int .i64 eb) from ⟨(b4.cell (p := ⟨w.heap.size, 0, none⟩) la3).trans S1.out.1, (b4.cell (p := ⟨w.heap.size, 1, none⟩) la3).trans S1.out.2.1, (b4.cell (p := ⟨w.heap.size, 2, none⟩) la3).trans S1.out.2.2.1, (b4.cell (p := ⟨w.heap.size + 1, 0, none⟩) lb3).trans S1.out.2.2.2.1, (b4.cell (p := ⟨w.heap.size + 1, 1, none⟩) lb3).trans S1.out.2.2.2.2.1, (b4.cell (p := ⟨w.heap.size + 1, 2, none⟩) lb3).trans S1.out.2.2.2.2.2⟩); have B4 := asd (below_post b4 B3.out); have I4 := asd (I3.out.below b4); have J4 := asd i4; have G4 := asd (show w.heap.size + 2 ≤ b2' from by omega); have NE := asd (show bx ≠ b2' from fun e => by have := I3.out.lt; omega); clear b4 n4 i4)))
  all_goals
    go_wp2_with (first
      | (go_at_call 130; (with_reducible refine (sign_any' bx x x.sign _ I4.out rfl).mono ?_); rintro e1 w1 ⟨rfl, rfl⟩)
      | (go_at_call 130; (with_reducible refine (sign_any' b2' y y.sign _ J4.out rfl).mono ?_); rintro e1 w1 ⟨rfl, rfl⟩)
      | (go_at_call 136; refine (Lsh0_calls b2' b2' y _ J4.out.z J4.out HSY.out).mono ?_; rintro e1 w5 ⟨rfl, o5, j5⟩; have I5 := asd (I4.out.only o5 (.inl J4.out.z) NE.out); have J5 := asd j5; have B5 := asd (below_only B4.out o5 B4.out.size (by have := G4.out; omega)); clear o5 j5))
    go_ret3
    exact ⟨bx, b2', rfl, by have := I5.out; rwa [HX0.out] at this, J5.out, B5.out, by have := G3.out; omega, by have := G4.out; omega, NE.out⟩
theorem level_nz (hx : val la ≠ 0) (hy : val lb = 0) :
    Calls Tryz.prog 106 #[.agg #[.bool na, .slice A la.length c, .int .i64 ea], .agg #[.bool nb, .slice B lb.length d, .int .i64 eb]] w
      (Level (zv na la) 0 ea w) := by
  obtain ⟨M, hM⟩ : ∃ M, mn ea eb = M := ⟨_, rfl⟩
  have hM1 : M ≤ ea := by rw [← hM]; unfold mn; split <;> omega
  have hM2 : M ≤ eb := by rw [← hM]; unfold mn; split <;> omega
  have hM3 : -65536 ≤ M := by rw [← hM]; unfold mn; split <;> omega
  have hsx : ((zv na la).sign == (0 : Int)) = false := by simp; intro h; have := congrArg Int.natAbs h; rw [zv_natAbs] at this; exact hx this
  have hy0 : zv nb lb = 0 := by unfold zv; rw [hy]; cases nb <;> rfl
  have hsy : ((zv nb lb).sign == (0 : Int)) = true := by rw [hy0]; rfl
  have hsx' : ((zv na la).sign != (0 : Int)) = true := by rw [bne, hsx]; rfl
  have hsy' : ((zv nb lb).sign != (0 : Int)) = false := by rw [bne, hsy]; rfl
  have HSX := asd (show Short (zv na la).natAbs by rw [zv_natAbs]; exact short_words hga hla)
  have HSY := asd (show Short (zv nb lb).natAbs by rw [zv_natAbs]; exact short_words hgb hlb)
  obtain ⟨x, hxx⟩ : ∃ x, zv na la = x := ⟨_, rfl⟩
  obtain ⟨y, hyy⟩ : ∃ y, zv nb lb = y := ⟨_, rfl⟩
  obtain ⟨ka, hka⟩ : ∃ ka : Nat, ea - M = (ka : Int) := ⟨(ea - M).toNat, by omega⟩
  obtain ⟨kb, hkb⟩ : ∃ kb : Nat, eb - M = (kb : Int) := ⟨(eb - M).toNat, by omega⟩
  rw [hxx] at hsx hsx' HSX ⊢
  rw [hyy] at hsy hsy' HSY hy0
  have HY0 := asd hy0
  clear hy0
  unfold mn at hM
  have HX := asd hxx
  have HY := asd hyy
  have hka2 : (ka : Int) ≤ 131072 := by omega
  have hkb2 : (kb : Int) ≤ 131072 := by omega
  have hka0 : (0 : Int) ≤ (ka : Int) := by omega
  have hkb0 : (0 : Int) ≤ (kb : Int) := by omega
  have KA := asd (show ka < 562949953421312 by omega)
  have KB := asd (show kb < 562949953421312 by omega)
  have DA := asd hda
  have GA := asd hga
  have LA := asd (show la.length < 17592186044415 by omega)
  have DB := asd hdb
  have GB := asd hgb
  have LB := asd (show lb.length < 17592186044415 by omega)
  have B1 := asd (((Below.refl w.heap.size w).alloc (Nat.le_refl _) (.cells #[.bool na, .slice A la.length c, .int .i64 ea] 60 (0, 0))).alloc (by simp) (.cells #[.bool nb, .slice B lb.length d, .int .i64 eb] 60 (0, 0)))
  have N1 := (show NumB ((w.alloc (.cells #[.bool na, .slice A la.length c, .int .i64 ea] 60 (0, 0))).alloc (.cells #[.bool nb, .slice B lb.length d, .int .i64 eb] 60 (0, 0))) w.heap.size na (.slice A la.length c) ea from blk_alloc (blk_new _ _) _)
  have N2 := (show NumB ((w.alloc (.cells #[.bool na, .slice A la.length c, .int .i64 ea] 60 (0, 0))).alloc (.cells #[.bool nb, .slice B lb.length d, .int .i64 eb] 60 (0, 0))) (w.heap.size + 1) nb (.slice B lb.length d) eb from numB_new2 _ _ _ _ _)
  have a0 := N1.c0
  have a1 := N1.c1
  have a2 := N1.c2
  have b0 := N2.c0
  have b1 := N2.c1
  have b2 := N2.c2
  have la1 := blk_lt N1
  have lb1 := blk_lt N2
  clear hda hga hla hdb hgb hlb hx hy hxx hyy N1 N2
  have tok1 : True := trivial
  go_enter Tryz.func106, Tryz.ntmps106
  go_wp2_with fail
  go_region_held3 (fun w' => w'.cell? ⟨w.heap.size, 0, none⟩ = some (.bool na) ∧ w'.cell? ⟨w.heap.size, 1, none⟩ = some (.slice A la.length c) ∧ w'.cell? ⟨w.heap.size, 2, none⟩ = some (.int .i64 ea) ∧ w'.cell? ⟨w.heap.size + 1, 0, none⟩ = some (.bool nb) ∧ w'.cell? ⟨w.heap.size + 1, 1, none⟩ = some (.slice B lb.length d) ∧ w'.cell? ⟨w.heap.size + 1, 2, none⟩ = some (.int .i64 eb))
    (first | exact ⟨a0, a1, a2, b0, b1, b2⟩ | exact S2.out | exact S1.out | go_keep)
    ((first
      | (go_at_call 93; have _t := tok1; refine (value_any na la ea A c _ (DA.out.below (by exact B1.out.drew)) GA.out LA.out).mono ?_; rw [HX.out]; rintro e1 w3 ⟨bx, rfl, i3, b3, n3⟩; have S1 := asd (show w3.cell? ⟨w.heap.size, 0, none⟩ = some (.bool na) ∧ w3.cell? ⟨w.heap.size, 1, none⟩ = some (.slice A la.length c) ∧ w3.cell? ⟨w.heap.size, 2, none⟩ = some (.int .i64 ea) ∧ w3.cell? ⟨w.heap.size + 1, 0, none⟩ = some (.bool nb) ∧ w3.cell? ⟨w.heap.size + 1, 1, none⟩ = some (.slice B lb.length d) ∧ w3.cell? ⟨w.heap.size + 1, 2, none⟩ = some (.int .i64 eb) from ⟨(b3.cell (p := ⟨w.heap.size, 0, none⟩) la1).trans a0, (b3.cell (p := ⟨w.heap.size, 1, none⟩) la1).trans a1, (b3.cell (p := ⟨w.heap.size, 2, none⟩) la1).trans a2, (b3.cell (p := ⟨w.heap.size + 1, 0, none⟩) lb1).trans b0, (b3.cell (p := ⟨w.heap.size + 1, 1, none⟩) lb1).trans b1, (b3.cell (p := ⟨w.heap.size + 1, 2, none⟩) lb1).trans b2⟩); have B3 := asd (below_post b3 (by exact B1.out.drew)); have I3 := asd i3; have G3 := asd (show w.heap.size + 2 ≤ bx from Nat.le_trans (by simp) n3); have la3 : w.heap.size < w3.heap.size := Nat.lt_of_lt_of_le la1 b3.size; have lb3 : w.heap.size + 1 < w3.heap.size := Nat.lt_of_lt_of_le lb1 b3.size; clear b3 n3 i3 tok1 _t)
      | (go_at_call 93; refine (value_any nb lb eb B d _ (DB.out.below B3.out) GB.out LB.out).mono ?_; rw [HY.out]; rintro e1 w4 ⟨b2', rfl, i4, b4, n4⟩; have S2 := asd (show w4.cell? ⟨w.heap.size, 0, none⟩ = some (.bool na) ∧ w4.cell? ⟨w.heap.size, 1, none⟩ = some (.slice A la.length c) ∧ w4.cell? ⟨w.heap.size, 2, none⟩ = some (.int .i64 ea) ∧ w4.cell? ⟨w.heap.size + 1, 0, none⟩ = some (.bool nb) ∧ w4.cell? ⟨w.heap.size + 1, 1, none⟩ = some (.slice B lb.length d) ∧ w4.cell? ⟨w.heap.size + 1, 2, none⟩ = some (.int .i64 eb) from ⟨(b4.cell (p := ⟨w.heap.size, 0, none⟩) la3).trans S1.out.1, (b4.cell (p := ⟨w.heap.size, 1, none⟩) la3).trans S1.out.2.1, (b4.cell (p := ⟨w.heap.size, 2, none⟩) la3).trans S1.out.2.2.1, (b4.cell (p := ⟨w.heap.size + 1, 0, none⟩) lb3).trans S1.out.2.2.2.1, (b4.cell (p := ⟨w.heap.size + 1, 1, none⟩) lb3).trans S1.out.2.2.2.2.1, (b4.cell (p := ⟨w.heap.size + 1, 2, none⟩) lb3).trans S1.out.2.2.2.2.2⟩); have B4 := asd (below_post b4 B3.out); have I4 := asd (I3.out.below b4); have J4 := asd i4; have G4 := asd (show w.heap.size + 2 ≤ b2' from by omega); have NE := asd (show bx ≠ b2' from fun e => by have := I3.out.lt; omega); clear b4 n4 i4)))
  all_goals
    go_wp2_with (first
      | (go_at_call 130; (with_reducible refine (sign_any' bx x x.sign _ I4.out rfl).mono ?_); rintro e1 w1 ⟨rfl, rfl⟩)
      | (go_at_call 130; (with_reducible refine (sign_any' b2' y y.sign _ J4.out rfl).mono ?_); rintro e1 w1 ⟨rfl, rfl⟩)
      | (go_at_call 130; (with_reducible refine (sign_any' b2' y y.sign _ J5.out rfl).mono ?_); rintro e1 w1 ⟨rfl, rfl⟩)
      | (go_at_call 136; refine (Lsh0_calls bx bx x _ I4.out.z I4.out HSX.out).mono ?_; rintro e1 w5 ⟨rfl, o5, i5⟩; have J5 := asd (J4.out.only o5 (.inl I4.out.z) (Ne.symm NE.out)); have I5 := asd i5; have B5 := asd (below_only B4.out o5 B4.out.size (by have := G3.out; omega)); clear o5 i5))
    go_ret3
    exact ⟨bx, b2', rfl, I5.out, by have := J5.out; rwa [HY0.out] at this, B5.out, by have := G3.out; omega, by have := G4.out; omega, NE.out⟩
theorem level_any : Calls Tryz.prog 106 #[.agg #[.bool na, .slice A la.length c, .int .i64 ea], .agg #[.bool nb, .slice B lb.length d, .int .i64 eb]] w
      (Level (lvl na la ea nb lb eb).1 (lvl na la ea nb lb eb).2.1 (lvl na la ea nb lb eb).2.2 w) := by
  unfold lvl
  by_cases hx : val la = 0 <;> by_cases hy : val lb = 0
  · rw [if_pos hx, if_pos hy]; exact level_zz na la ea A c nb lb eb B d w hda hga hla ha0 ha1 hdb hgb hlb hb0 hb1 hx hy
  · rw [if_pos hx, if_neg hy]; exact level_zn na la ea A c nb lb eb B d w hda hga hla ha0 ha1 hdb hgb hlb hb0 hb1 hx hy
  · rw [if_neg hx, if_pos hy]; exact level_nz na la ea A c nb lb eb B d w hda hga hla ha0 ha1 hdb hgb hlb hb0 hb1 hx hy
  · rw [if_neg hx, if_neg hy]; exact level_both na la ea A c nb lb eb B d w hda hga hla ha0 ha1 hdb hgb hlb hb0 hb1 hx hy
end
end Go.Proofs.YthmeocigliephaaGreatDoor.Big
end
section
namespace Go.Proofs.YthmeocigliephaaGreatDoor.Big
open Go.Proofs.YthmeocigliephaaGreatDoor.PNa Go.Proofs.YthmeocigliephaaGreatDoor.Plain
instance instDecDg (l : List Int) : Decidable (Dg l) := inferInstanceAs (Decidable (∀ d ∈ l, 0 ≤ d ∧ d < 4294967296))
def IsN (n : Bool) (l : List Int) (e : Int) : Prop := dyad_Valid.f n l e = some true ∧ Dg l
instance instDecIsN (n : Bool) (l : List Int) (e : Int) : Decidable (IsN n l e) := inferInstanceAs (Decidable (_ ∧ _))
theorem IsN.facts {n : Bool} {l : List Int} {e : Int} (h : IsN n l e) : l.length ≤ 2048 ∧ -65536 ≤ e ∧ e ≤ 65536 := by
  by_cases hl : l.length = 0
  · have h1 := h.1
    unfold dyad_Valid.f at h1
    rw [if_pos (by omega)] at h1
    split at h1
    · omega
    · cases h1
  · exact valid_facts h.1 hl
theorem valid2 (na : Bool) (la : List Int) (ea : Int) (A : Option Addr) (c : Nat) (nb : Bool) (lb : List Int) (eb : Int) (B : Option Addr) (d g : Nat) (w : World)
    (hda : DigS w la A c) (ha : IsN na la ea) (hdb : DigS w lb B d) (hb : IsN nb lb eb) (hg : w.heap[g]? = some (.cells #[.bool na, .slice A la.length c, .int .i64 ea, .bool nb, .slice B lb.length d, .int .i64 eb] 60 (0, 0))) :
    Calls Tryz.prog 88 #[.slice (some ⟨g, 0, none⟩) 2 2] w fun e w' => e = .returned (.bool true) ∧ Below w.heap.size w w' := by
  have hC : Kd.C k60 w (some ⟨g, 0, none⟩) ([⟨na, la, ea⟩, ⟨nb, lb, eb⟩] : List S60).length [⟨na, la, ea⟩, ⟨nb, lb, eb⟩] := by
    refine ⟨rfl, by simp, fun _ => ⟨⟨g, 0, none⟩, rfl, fun j p hj => ?_⟩⟩
    match j, hj with
    | 0, hj =>
      obtain rfl := Option.some.inj hj
      refine ⟨_, rfl, k60_mk w ⟨na, la, ea⟩ hda.cap hda.rd, fun i u hi => ?_⟩
      match i, hi with
      | 0, hi => obtain rfl := Option.some.inj hi; exact blk_cell hg 0
      | 1, hi => obtain rfl := Option.some.inj hi; exact blk_cell hg 1
      | 2, hi => obtain rfl := Option.some.inj hi; exact blk_cell hg 2
      | i + 3, hi => cases hi
    | 1, hj =>
      obtain rfl := Option.some.inj hj
      refine ⟨_, rfl, k60_mk w ⟨nb, lb, eb⟩ hdb.cap hdb.rd, fun i u hi => ?_⟩
      match i, hi with
      | 0, hi => obtain rfl := Option.some.inj hi; exact blk_cell hg 3
      | 1, hi => obtain rfl := Option.some.inj hi; exact blk_cell hg 4
      | 2, hi => obtain rfl := Option.some.inj hi; exact blk_cell hg 5
      | i + 3, hi => cases hi
    | j + 2, hj => cases hj
  refine dyad_valid.calls 3 (some ⟨g, 0, none⟩) 2 [⟨na, la, ea⟩, ⟨nb, lb, eb⟩] true w hC (by simp) ?_
  unfold dyad_valid.f
  have w1 : wrap64 (0 + 1) = 1 := by unfold wrap64; rfl
  have w2 : wrap64 (1 + 1) = 2 := by unfold wrap64; rfl
  have e1 : rd_T60 [⟨na, la, ea⟩, ⟨nb, lb, eb⟩] 0 = ⟨na, la, ea⟩ := rfl
  have e2 : rd_T60 [⟨na, la, ea⟩, ⟨nb, lb, eb⟩] 1 = ⟨nb, lb, eb⟩ := rfl
  rw [dyad_valid.l0, if_pos (by simp), if_pos (by simp), if_pos (by simp), e1, ha.1, Option.bind_some, if_pos rfl, w1]
  rw [dyad_valid.l0, if_pos (by simp), if_pos (by simp), if_pos (by simp), e2, hb.1, Option.bind_some, if_pos rfl, w2]
  rw [dyad_valid.l0, if_neg (by simp)]
def farV (la : List Int) (ea : Int) (lb : List Int) (eb : Int) : Bool := !la.isEmpty && !lb.isEmpty && decide (mx ((bl (val la) : Int) + ea) ((bl (val lb) : Int) + eb) - mn ea eb > 65538)
theorem top_law {n : Bool} {l : List Int} {e : Int} (h : IsN n l e) (hl : l.length ≠ 0) : dyad_Top.f n l e = some ((bl (val l) : Int) + e) := by
  unfold dyad_Top.f
  rw [h.1, Option.bind_some, if_pos rfl, if_neg hl]
  exact if_pos h.2
theorem bl_words {l : List Int} (hg : Dg l) (hl : l.length ≤ 2048) : bl (val l) ≤ 65536 := by
  have h := bl_le.2 (val_lt hg)
  omega
theorem far_law {na : Bool} {la : List Int} {ea : Int} {nb : Bool} {lb : List Int} {eb : Int} (ha : IsN na la ea) (hb : IsN nb lb eb) : Ev (fun k => PNe.dyad_far.f k na la ea nb lb eb) (farV la ea lb eb) := by
  obtain ⟨a1, a2, a3⟩ := ha.facts
  obtain ⟨b1, b2, b3⟩ := hb.facts
  unfold PNe.dyad_far.f farV
  by_cases hla : la.length = 0
  · have : la = [] := List.length_eq_zero_iff.1 hla
    subst this
    refine Ev.congr (fun k => if_pos (by simp)) (Ev.step (f := fun _ => some false) (fun k => ?_) (Ev.now _))
    simp [PNe.dyad_far.j0]
  · refine Ev.congr (fun k => if_neg (by omega)) ?_
    by_cases hlb : lb.length = 0
    · have : lb = [] := List.length_eq_zero_iff.1 hlb
      subst this
      have e : (!la.isEmpty && !([] : List Int).isEmpty && decide (mx ((bl (val la) : Int) + ea) ((bl (val []) : Int) + eb) - mn ea eb > 65538)) = false := by simp
      rw [e]
      refine Ev.step (f := fun _ => some false) (fun k => ?_) (Ev.now _)
      simp [PNe.dyad_far.j0]
    · have h1 : la.isEmpty = false := by cases la; exact absurd rfl hla; rfl
      have h2 : lb.isEmpty = false := by cases lb; exact absurd rfl hlb; rfl
      have t1 := top_law ha hla
      have t2 := top_law hb hlb
      have c1 := bl_words ha.2 a1
      have c2 := bl_words hb.2 b1
      have h3 : ((lb.length : Int) == 0) = false := by simp; intro h; exact hlb (by rw [h]; rfl)
      rw [h1, h2]
      simp only [Bool.not_false, Bool.true_and]
      refine Ev.step (f := fun _ => some (decide (mx ((bl (val la) : Int) + ea) ((bl (val lb) : Int) + eb) - mn ea eb > 65538))) (fun k => ?_) (Ev.now _)
      rw [PNe.dyad_far.j0, if_neg (by rw [h3]; decide), t1, Option.bind_some, t2, Option.bind_some]
      rw [w64_of (by unfold mx mn; split <;> split <;> omega) (by unfold mx mn; split <;> split <;> omega)]
def addV (na : Bool) (la : List Int) (ea : Int) (nb : Bool) (lb : List Int) (eb : Int) : Bool × List Int × Int × Int :=
  if farV la ea lb eb then (false, [], 0, 2) else mkN ((lvl na la ea nb lb eb).1 + (lvl na la ea nb lb eb).2.1) (lvl na la ea nb lb eb).2.2
theorem val_words_short {n : Bool} {l : List Int} {e : Int} (h : IsN n l e) : Short (val l) := short_words h.2 h.facts.1
theorem bl_add {a b k : Nat} (ha : bl a ≤ k) (hb : bl b ≤ k) : bl (a + b) ≤ k + 1 := by
  have h1 := bl_le.1 ha
  have h2 := bl_le.1 hb
  refine bl_le.2 ?_
  rw [Nat.pow_succ]; omega
theorem bl_mul_le {a k j : Nat} (ha : bl a ≤ k) : bl (a * 2 ^ j) ≤ k + j := by
  by_cases h : a = 0
  · subst h; simp [bl]
  · rw [bl_mul_pow h]; omega
theorem short_bl {n k : Nat} (h : bl n ≤ k) (hk : k ≤ 1000000) : Short n :=
  have ⟨K, hK⟩ : ∃ K, K = 1000000 := ⟨_, rfl⟩
  Short.of (k := K) (Nat.lt_of_lt_of_le (bl_le.1 h) (Nat.pow_le_pow_right (by omega) (by omega))) (by omega)
theorem lvl_facts {na : Bool} {la : List Int} {ea : Int} {nb : Bool} {lb : List Int} {eb : Int} (ha : IsN na la ea) (hb : IsN nb lb eb) :
    bl (lvl na la ea nb lb eb).1.natAbs ≤ 200000 ∧ bl (lvl na la ea nb lb eb).2.1.natAbs ≤ 200000 ∧ -65536 ≤ (lvl na la ea nb lb eb).2.2 ∧ (lvl na la ea nb lb eb).2.2 ≤ 65536 := by
  obtain ⟨a1, a2, a3⟩ := ha.facts
  obtain ⟨b1, b2, b3⟩ := hb.facts
  have c1 := bl_words ha.2 a1
  have c2 := bl_words hb.2 b1
  have z1 : bl (zv na la).natAbs ≤ 65536 := by rw [zv_natAbs]; exact c1
  have z2 : bl (zv nb lb).natAbs ≤ 65536 := by rw [zv_natAbs]; exact c2
  have z0 : bl (0 : Int).natAbs ≤ 200000 := by decide
  have hp : ∀ (x : Int) (k : Nat), (x * 2 ^ k).natAbs = x.natAbs * 2 ^ k := fun x k => by rw [Int.natAbs_mul, Int.natAbs_pow]; rfl
  unfold lvl
  split
  · split
    · exact ⟨z0, z0, a2, a3⟩
    · exact ⟨z0, by simp only; omega, b2, b3⟩
  · split
    · exact ⟨by simp only; omega, z0, a2, a3⟩
    · have m1 : -65536 ≤ mn ea eb ∧ mn ea eb ≤ 65536 ∧ mn ea eb ≤ ea ∧ mn ea eb ≤ eb := by unfold mn; split <;> omega
      simp only
      refine ⟨?_, ?_, m1.1, m1.2.1⟩
      · rw [hp]; exact Nat.le_trans (bl_mul_le z1) (by omega)
      · rw [hp]; exact Nat.le_trans (bl_mul_le z2) (by omega)
theorem short_sum {u v : Int} (hu : bl u.natAbs ≤ 200000) (hv : bl v.natAbs ≤ 200000) : Short (u + v).natAbs := by
  have h1 : (u + v).natAbs ≤ u.natAbs + v.natAbs := Int.natAbs_add_le u v
  exact (short_bl (bl_add hu hv) (by omega)).mono h1
structure Boxes (W : World) (g : Nat) (na : Bool) (sa : Value) (ea : Int) (nb : Bool) (sb : Value) (eb : Int) : Prop where
  a : NumB W g na sa ea
  b : NumB W (g + 1) nb sb eb
  r : NumB W (g + 1 + 1) false (.slice none 0 0) 0
theorem Boxes.below {W W' : World} {g : Nat} {na : Bool} {sa : Value} {ea : Int} {nb : Bool} {sb : Value} {eb : Int} (h : Boxes W g na sa ea nb sb eb) (k : Below W.heap.size W W') : Boxes W' g na sa ea nb sb eb :=
  ⟨h.a.below k, h.b.below k, h.r.below k⟩
theorem Boxes.only {W W' : World} {g z : Nat} {na : Bool} {sa : Value} {ea : Int} {nb : Bool} {sb : Value} {eb : Int} (h : Boxes W g na sa ea nb sb eb) (k : Only z W W') (hz : g + 1 + 1 < z) : Boxes W' g na sa ea nb sb eb :=
  ⟨h.a.only k (by omega), h.b.only k (by omega), h.r.only k (by omega)⟩
theorem boxes_new (w : World) (na : Bool) (sa : Value) (ea : Int) (nb : Bool) (sb : Value) (eb : Int) :
    Boxes (((w.alloc (.cells #[.bool na, sa, .int .i64 ea] 60 (0, 0))).alloc (.cells #[.bool nb, sb, .int .i64 eb] 60 (0, 0))).alloc (.cells #[.bool false, .slice none 0 0, .int .i64 0] 60 (0, 0))) w.heap.size na sa ea nb sb eb :=
  ⟨blk_alloc (blk_alloc (blk_new _ _) _) _, blk_alloc (numB_new2 _ _ _ _ _) _, by have := numB_new2 (w.alloc (.cells #[.bool na, sa, .int .i64 ea] 60 (0, 0))) (.cells #[.bool nb, sb, .int .i64 eb] 60 (0, 0)) false (.slice none 0 0) 0; rwa [show (w.alloc (.cells #[.bool na, sa, .int .i64 ea] 60 (0, 0))).heap.size = w.heap.size + 1 by simp] at this⟩
section
variable (na : Bool) (la : List Int) (ea : Int) (A : Option Addr) (c : Nat) (nb : Bool) (lb : List Int) (eb : Int) (B : Option Addr) (d : Nat) (w : World)
  (hda : DigS w la A c) (ha : IsN na la ea) (hdb : DigS w lb B d) (hb : IsN nb lb eb) (hL : Laid w)
include hda ha hdb hb hL
theorem add_num : Calls Tryz.prog 79 #[.agg #[.bool na, .slice A la.length c, .int .i64 ea], .agg #[.bool nb, .slice B lb.length d, .int .i64 eb]] w (RetNum (addV na la ea nb lb eb) w) := by
  obtain ⟨kf, hkf⟩ := (far_law ha hb).rounds
  obtain ⟨f1, f2, f3, f4⟩ := lvl_facts ha hb
  obtain ⟨a1, a2, a3⟩ := ha.facts
  obtain ⟨b1, b2, b3⟩ := hb.facts
  obtain ⟨X, hX⟩ : ∃ X, (lvl na la ea nb lb eb).1 = X := ⟨_, rfl⟩
  obtain ⟨Y, hY⟩ : ∃ Y, (lvl na la ea nb lb eb).2.1 = Y := ⟨_, rfl⟩
  obtain ⟨E, hE⟩ : ∃ E, (lvl na la ea nb lb eb).2.2 = E := ⟨_, rfl⟩
  obtain ⟨F, hF⟩ : ∃ F, farV la ea lb eb = F := ⟨_, rfl⟩
  unfold addV
  rw [hF] at hkf ⊢
  rw [hX] at f1 ⊢
  rw [hY] at f2 ⊢
  rw [hE] at f3 f4 ⊢
  have SX := asd (short_bl f1 (by omega))
  have SY := asd (short_bl f2 (by omega))
  have SZ := asd (short_sum f1 f2)
  have EX := asd hX
  have EY := asd hY
  have EE := asd hE
  have FK := asd hkf
  have F3 := asd (show (-1000000 : Int) ≤ E by omega)
  have F4 := asd (show E ≤ (1000000 : Int) by omega)
  have DA := asd hda
  have NA := asd ha
  have DB := asd hdb
  have NB := asd hb
  have LL := asd hL
  have CA := asd (And.intro a1 (And.intro a2 a3))
  have CB := asd (And.intro b1 (And.intro b2 b3))
  clear hX hY hE hkf hda ha hdb hb hL a1 a2 a3 b1 b2 b3 f1 f2 f3 f4 hF
  -- the variables of the call's own, and the pair
  obtain ⟨o6, ho6⟩ : ∃ o, o = Obj.cells #[.bool na, .slice A la.length c, .int .i64 ea, .bool nb, .slice B lb.length d, .int .i64 eb] 60 (0, 0) := ⟨_, rfl⟩
  have X3 := boxes_new w na (.slice A la.length c) ea nb (.slice B lb.length d) eb
  have X4 := asd (ho6 ▸ X3.below ((Below.refl _ _).alloc (Nat.le_refl _) o6))
  have P4 := asd (show ((((w.alloc (.cells #[.bool na, .slice A la.length c, .int .i64 ea] 60 (0, 0))).alloc (.cells #[.bool nb, .slice B lb.length d, .int .i64 eb] 60 (0, 0))).alloc (.cells #[.bool false, .slice none 0 0, .int .i64 0] 60 (0, 0))).alloc (.cells #[.bool na, .slice A la.length c, .int .i64 ea, .bool nb, .slice B lb.length d, .int .i64 eb] 60 (0, 0))).heap[w.heap.size + 1 + 1 + 1]? = some (.cells #[.bool na, .slice A la.length c, .int .i64 ea, .bool nb, .slice B lb.length d, .int .i64 eb] 60 (0, 0)) by
    have := blk_new (((w.alloc (.cells #[.bool na, .slice A la.length c, .int .i64 ea] 60 (0, 0))).alloc (.cells #[.bool nb, .slice B lb.length d, .int .i64 eb] 60 (0, 0))).alloc (.cells #[.bool false, .slice none 0 0, .int .i64 0] 60 (0, 0))) (.cells #[.bool na, .slice A la.length c, .int .i64 ea, .bool nb, .slice B lb.length d, .int .i64 eb] 60 (0, 0))
    rwa [show (((w.alloc (.cells #[.bool na, .slice A la.length c, .int .i64 ea] 60 (0, 0))).alloc (.cells #[.bool nb, .slice B lb.length d, .int .i64 eb] 60 (0, 0))).alloc (.cells #[.bool false, .slice none 0 0, .int .i64 0] 60 (0, 0))).heap.size = w.heap.size + 1 + 1 + 1 by simp] at this)
  have B4 := asd (((((Below.refl w.heap.size w).alloc (Nat.le_refl _) (.cells #[.bool na, .slice A la.length c, .int .i64 ea] 60 (0, 0))).alloc (by simp) (.cells #[.bool nb, .slice B lb.length d, .int .i64 eb] 60 (0, 0))).alloc (by simp; omega) (.cells #[.bool false, .slice none 0 0, .int .i64 0] 60 (0, 0))).alloc (by simp; omega) (.cells #[.bool na, .slice A la.length c, .int .i64 ea, .bool nb, .slice B lb.length d, .int .i64 eb] 60 (0, 0)))
  subst ho6
  clear X3
  cases F
  · go_enter Tryz.func79, Tryz.ntmps79
    go_wp2_with (first
      | (go_at_call 88; refine (valid2 na la ea A c nb lb eb B d _ _ (DA.out.below B4.out) NA.out (DB.out.below B4.out) NB.out P4.out).mono ?_; rintro e1 w5 ⟨rfl, b5⟩; have B5 := asd (below_post b5 B4.out); have X5 := asd (X4.out.below b5); have a0 := X5.out.a.c0; have a1 := X5.out.a.c1; have a2 := X5.out.a.c2; have b0 := X5.out.b.c0; have b1 := X5.out.b.c1; have b2 := X5.out.b.c2; clear b5 X4 B4 P4)
      | (go_at_call 105; refine (PNe.dyad_far.calls kf na A c la ea nb B d lb eb false _ (DA.out.below B5.out).rd DA.out.cap (DB.out.below B5.out).rd DB.out.cap FK.out).mono ?_; rintro e1 w6 ⟨rfl, b6⟩; have B6 := asd (below_post b6 B5.out); have X6 := asd (X5.out.below b6); clear a0 a1 a2 b0 b1 b2; have a0 := X6.out.a.c0; have a1 := X6.out.a.c1; have a2 := X6.out.a.c2; have b0 := X6.out.b.c0; have b1 := X6.out.b.c1; have b2 := X6.out.b.c2; clear b6 X5 B5)
      | (go_at_call 106; refine (level_any na la ea A c nb lb eb B d _ (DA.out.below B6.out) NA.out.2 CA.out.1 CA.out.2.1 CA.out.2.2 (DB.out.below B6.out) NB.out.2 CB.out.1 CB.out.2.1 CB.out.2.2).mono ?_; rw [EX.out, EY.out, EE.out]; rintro e1 w7 ⟨bx, b2', rfl, ix, iy, b7, gx, gy, ne⟩; have B7 := asd (below_post b7 B6.out); have X7 := asd (X6.out.below b7); have IX := asd ix; have IY := asd iy; have GX := asd (show w.heap.size + 1 + 1 < bx from Nat.lt_of_lt_of_le (blk_lt X6.out.r) gx); clear a0 a1 a2 b0 b1 b2 b7 X6 B6 ix iy gx gy ne)
      | (go_at_call 107; refine (add_any bx bx b2' X Y _ IX.out.z IX.out IY.out SX.out SY.out).mono ?_; rintro e1 w8 ⟨rfl, o8, i8⟩; have X8 := asd (X7.out.only o8 GX.out); have I8 := asd i8; have B8 := asd (below_only B7.out o8 B7.out.size (by have := GX.out; omega)); have L8 := asd (LL.out.step B8.out); clear o8 i8 X7)
      | (go_at_call 103; refine (num_any bx (X + Y) E _ I8.out SZ.out L8.out F3.out F4.out).mono ?_; rintro e1 w9 ⟨u, rfl, r9, b9⟩; obtain ⟨Au, cu, hu⟩ := Kd.R_slice r9; subst hu; have X9 := asd (X8.out.below b9); have q0 := X9.out.r.c0; have q1 := X9.out.r.c1; have q2 := X9.out.r.c2; have q3 := X9.out.r.fr 0; have q4 := X9.out.r.fr 1; have q5 := X9.out.r.fr 2; have R9 := asd r9; have B9 := asd (below_post b9 B8.out); have lt9 := asd (blk_lt X8.out.r); clear b9 r9 X8))
    refine bodyPost_ret (v := .tuple #[.agg #[.bool (mkN (X + Y) E).1, .slice Au (mkN (X + Y) E).2.1.length cu, .int .i64 (mkN (X + Y) E).2.2.1], .int .i64 (mkN (X + Y) E).2.2.2]) (by simp [results, Tryz.results79, go_sem, q0, q1, q2, q3, q4, q5]) rfl ?_
    have l9 := lt9.out
    exact ⟨_, rfl, Kd.R_lower (r_set (r_set (r_set R9.out _ (by simpa using l9) _) _ (by simpa using l9) _) _ (by simpa using l9) _) B8.out.size, ((B9.out.setCell (by simp; omega) _).setCell (by simp; omega) _).setCell (by simp; omega) _⟩
  · go_enter Tryz.func79, Tryz.ntmps79
    go_wp2_with (first
      | (go_at_call 88; refine (valid2 na la ea A c nb lb eb B d _ _ (DA.out.below B4.out) NA.out (DB.out.below B4.out) NB.out P4.out).mono ?_; rintro e1 w5 ⟨rfl, b5⟩; have B5 := asd (below_post b5 B4.out); have X5 := asd (X4.out.below b5); have a0 := X5.out.a.c0; have a1 := X5.out.a.c1; have a2 := X5.out.a.c2; have b0 := X5.out.b.c0; have b1 := X5.out.b.c1; have b2 := X5.out.b.c2; clear b5 X4 B4 P4)
      | (go_at_call 105; refine (PNe.dyad_far.calls kf na A c la ea nb B d lb eb true _ (DA.out.below B5.out).rd DA.out.cap (DB.out.below B5.out).rd DB.out.cap FK.out).mono ?_; rintro e1 w6 ⟨rfl, b6⟩; have B6 := asd (below_post b6 B5.out); have X6 := asd (X5.out.below b6); clear a0 a1 a2 b0 b1 b2; have q0 := X6.out.r.c0; have q1 := X6.out.r.c1; have q2 := X6.out.r.c2; have q3 := X6.out.r.fr 0; have q4 := X6.out.r.fr 1; have q5 := X6.out.r.fr 2; clear b6 X5 B5))
    refine bodyPost_ret (v := .tuple #[.agg #[.bool false, .slice none 0 0, .int .i64 0], .int .i64 2]) (by simp [results, Tryz.results79, go_sem, q0, q1, q2, q3, q4, q5]) rfl ?_
    exact ⟨_, rfl, Kd.R_nil _ _ _ _ _, ((B6.out.setCell (by simp; omega) _).setCell (by simp; omega) _).setCell (by simp; omega) _⟩
end
end Go.Proofs.YthmeocigliephaaGreatDoor.Big
end
section
namespace Go.Proofs.YthmeocigliephaaGreatDoor.Big
open Go.Proofs.YthmeocigliephaaGreatDoor.PNa Go.Proofs.YthmeocigliephaaGreatDoor.Plain
theorem set3_cell (w : World) (g : Nat) (u0 u1 u2 : Value) (b i : Nat) (h : b ≠ g) : (((w.setCell ⟨g, 0, none⟩ u0).setCell ⟨g, 1, none⟩ u1).setCell ⟨g, 2, none⟩ u2).cell? ⟨b, i, none⟩ = w.cell? ⟨b, i, none⟩ := by
  rw [cell_far (by exact h), cell_far (by exact h), cell_far (by exact h)]
end Go.Proofs.YthmeocigliephaaGreatDoor.Big
end
section
namespace Go.Proofs.YthmeocigliephaaGreatDoor.PNl
attribute [local go_sem] f64bits_run f64from_run run_float_some max2_int min2_int max_two min_two max_three min_three max_four min_four
def errW : Option Int → Value
 | none => .nilIface
 | some c => .iface 0 (.int .i64 c)
theorem errW_none : errW none = .nilIface := rfl
theorem errW_some (c : Int) : errW (some c) = .iface 0 (.int .i64 c) := rfl
end Go.Proofs.YthmeocigliephaaGreatDoor.PNl
end
section
namespace Go.Proofs.YthmeocigliephaaGreatDoor.PNl
attribute [local go_sem] f64bits_run f64from_run run_float_some max2_int min2_int max_two min_two max_three min_three max_four min_four
def math_Abs.f (a0 : Nat) : Option (Nat) := some ((Go.bits .andNot .u64 ((a0 : Nat) : Int) 9223372036854775808 : Int).toNat)
theorem math_Abs.calls (a0 : Nat) (r : Nat) (w : World) (h : math_Abs.f a0 = some r) :
  Calls Tryz.prog 41 #[.float .f64 a0] w fun e w' => e = .returned (.float .f64 r) ∧ Drawn0 w w' := by
 have H := h
 clear h
 unfold math_Abs.f at H
 obtain rfl := Option.some.inj H
 go_enter Tryz.func41, Tryz.ntmps41
 go_wp2
 go_ret
 exact ⟨eqB, dn0⟩
def math_IsInf.f (a0 : Nat) (a1 : Int) : Option (Bool) := if a1 = 0 then ((math_Abs.f a0).bind fun t101 => (some ((FloatKind.f64.format.order t101 (9218868437227405311 : Nat)) == some .gt))) else (none)
theorem math_IsInf.calls (a0 : Nat) (a1 : Int) (r : Bool) (w : World) (h : math_IsInf.f a0 a1 = some r) :
  Calls Tryz.prog 43 #[.float .f64 a0, .int .i64 a1] w fun e w' => e = .returned (.bool r) ∧ Drawn0 w w' := by
 have H := h
 clear h
 unfold math_IsInf.f at H
 by_cases c3 : a1 = 0
 ·rw [if_pos c3] at H
  have c3b0 := beq_iff_eq.mpr c3
  have c3b1 := bne_eq_false_iff_eq.mpr c3
  clear c3
  replace H := Option.bind_eq_some_iff.mp H
  obtain ⟨t101, A40, H⟩ := H
  have A4 := asd A40
  clear A40
  obtain rfl := Option.some.inj H
  go_enter Tryz.func43, Tryz.ntmps43
  go_wp2_with (first | ((with_reducible refine gate_callee (f := 41) rfl ?_); refine goesL_ (some 8) rfl rfl Tryz.func41 (by kernel_rfl) rfl #[.float .f64 a0] rfl eqA ?_; (with_reducible refine (math_Abs.calls a0 t101 _ A4.out).mono ?_); rintro e w' ⟨rfl, ⟨nd, rfl⟩⟩; refine ⟨_, rfl, ?_⟩))
  go_ret
  exact ⟨eqB, dn0⟩
 ·rw [if_neg c3] at H
  exact absurd H (by simp)
def math_Copysign.f (a0 : Nat) (a1 : Nat) : Option (Nat) := some ((Go.bits .or .u64 (Go.bits .andNot .u64 ((a0 : Nat) : Int) 9223372036854775808) (Go.bits .and .u64 ((a1 : Nat) : Int) 9223372036854775808) : Int).toNat)
theorem math_Copysign.calls (a0 : Nat) (a1 : Nat) (r : Nat) (w : World) (h : math_Copysign.f a0 a1 = some r) :
  Calls Tryz.prog 55 #[.float .f64 a0, .float .f64 a1] w fun e w' => e = .returned (.float .f64 r) ∧ Drawn0 w w' := by
 have H := h
 clear h
 unfold math_Copysign.f at H
 obtain rfl := Option.some.inj H
 go_enter Tryz.func55, Tryz.ntmps55
 go_wp2
 go_ret
 exact ⟨eqB, dn0⟩
def math_Inf.f (a0 : Int) : Option (Nat) := if a0 ≥ 0 then (some ((9218868437227405312 : Int).toNat)) else (some ((18442240474082181120 : Int).toNat))
theorem math_Inf.calls (a0 : Int) (r : Nat) (w : World) (h : math_Inf.f a0 = some r) :
  Calls Tryz.prog 109 #[.int .i64 a0] w fun e w' => e = .returned (.float .f64 r) ∧ Drawn0 w w' := by
 have H := h
 clear h
 unfold math_Inf.f at H
 by_cases c2 : a0 ≥ 0
 ·rw [if_pos c2] at H
  have c2b0 := decide_eq_true c2
  clear c2
  obtain rfl := Option.some.inj H
  go_enter Tryz.func109, Tryz.ntmps109
  go_wp2
  go_ret
  exact ⟨eqB, dn0⟩
 ·rw [if_neg c2] at H
  have c2b0 := decide_eq_false c2
  clear c2
  obtain rfl := Option.some.inj H
  go_enter Tryz.func109, Tryz.ntmps109
  go_wp2
  go_ret
  exact ⟨eqB, dn0⟩
def math_IsNaN.f (a0 : Nat) : Option (Bool) := some ((FloatKind.f64.format.order a0 a0) != some .eq)
theorem math_IsNaN.calls (a0 : Nat) (r : Bool) (w : World) (h : math_IsNaN.f a0 = some r) :
  Calls Tryz.prog 122 #[.float .f64 a0] w fun e w' => e = .returned (.bool r) ∧ Drawn0 w w' := by
 have H := h
 clear h
 unfold math_IsNaN.f at H
 obtain rfl := Option.some.inj H
 go_enter Tryz.func122, Tryz.ntmps122
 go_wp2
 go_ret
 exact ⟨eqB, dn0⟩
def math_normalize.f (a0 : Nat) : Option (Nat × Int) := (math_Abs.f a0).bind fun t102 => (if ((FloatKind.f64.format.order t102 (4503599627370496 : Nat)) == some .lt) = true then (if ((floatBits .mul .f64 a0 (4841369599423283200 : Nat)).isSome) = true then (some (((floatBits .mul .f64 a0 (4841369599423283200 : Nat)).getD 0), (-52))) else (none)) else (some (a0, 0)))
theorem math_normalize.calls (a0 : Nat) (r1 : Nat) (r2 : Int) (w : World) (h : math_normalize.f a0 = some (r1, r2)) :
  Calls Tryz.prog 160 #[.float .f64 a0] w fun e w' => e = .returned (.tuple #[.float .f64 r1, .int .i64 r2]) ∧ Drawn0 w w' := by
 have H := h
 clear h
 unfold math_normalize.f at H
 replace H := Option.bind_eq_some_iff.mp H
 obtain ⟨t102, A20, H⟩ := H
 have A2 := asd A20
 clear A20
 by_cases c3 : ((FloatKind.f64.format.order t102 (4503599627370496 : Nat)) == some .lt) = true
 ·rw [if_pos c3] at H
  have c3b0 : ((FloatKind.f64.format.order t102 (4503599627370496 : Nat)) == some .lt) = true := c3
  (try (have c3b1 : decide ((FloatKind.f64.format.order t102 (4503599627370496 : Nat)) = some .lt) = true := by simpa using c3))
  (try (have c3b2 : ((FloatKind.f64.format.order t102 (4503599627370496 : Nat)) == some .lt) = true := by simpa using c3))
  clear c3
  by_cases c4 : ((floatBits .mul .f64 a0 (4841369599423283200 : Nat)).isSome) = true
  ·rw [if_pos c4] at H
   have c4b0 := eq_true c4
   have c4b1 := decide_eq_true c4
   clear c4
   simp only [Option.some.injEq, Prod.mk.injEq] at H
   obtain ⟨rfl, rfl⟩ := H
   go_enter Tryz.func160, Tryz.ntmps160
   go_wp2_with (first | ((with_reducible refine gate_callee (f := 41) rfl ?_); refine goesL_ (some 5) rfl rfl Tryz.func41 (by kernel_rfl) rfl #[.float .f64 a0] rfl eqA ?_; (with_reducible refine (math_Abs.calls a0 t102 _ A2.out).mono ?_); rintro e w' ⟨rfl, ⟨nd, rfl⟩⟩; refine ⟨_, rfl, ?_⟩))
   go_ret2
   exact ⟨eqB, dn0⟩
  ·rw [if_neg c4] at H
   exact absurd H (by simp)
 ·rw [if_neg c3] at H
  have c3b0 : ((FloatKind.f64.format.order t102 (4503599627370496 : Nat)) == some .lt) = false := by simpa using c3
  (try (have c3b1 : decide ((FloatKind.f64.format.order t102 (4503599627370496 : Nat)) = some .lt) = false := by simpa using c3))
  (try (have c3b2 : ((FloatKind.f64.format.order t102 (4503599627370496 : Nat)) == some .lt) = false := by simpa using c3))
  (try (have c3b3 : ¬ ((FloatKind.f64.format.order t102 (4503599627370496 : Nat)) = some .lt) := by simpa using c3))
  clear c3
  simp only [Option.some.injEq, Prod.mk.injEq] at H
  obtain ⟨rfl, rfl⟩ := H
  go_enter Tryz.func160, Tryz.ntmps160
  go_wp2_with (first | ((with_reducible refine gate_callee (f := 41) rfl ?_); refine goesL_ (some 5) rfl rfl Tryz.func41 (by kernel_rfl) rfl #[.float .f64 a0] rfl eqA ?_; (with_reducible refine (math_Abs.calls a0 t102 _ A2.out).mono ?_); rintro e w' ⟨rfl, ⟨nd, rfl⟩⟩; refine ⟨_, rfl, ?_⟩))
  go_ret2
  exact ⟨eqB, dn0⟩
def math_ldexp.f (a0 : Nat) (a1 : Int) : Option (Nat) := if ((FloatKind.f64.format.order a0 (0 : Nat)) == some .eq) = true then (some a0) else ((math_IsInf.f a0 0).bind fun t103 => (if t103 = true then (some a0) else ((math_IsNaN.f a0).bind fun t104 => (if t104 = true then (some a0) else ((math_normalize.f a0).bind fun bt105 => (if (wrap64 ((wrap64 (a1 + bt105.2)) + (wrap64 ((Go.bits .and .i64 (wrap64 (((bt105.1 : Nat) : Int) / 4503599627370496)) 2047) - 1023)))) < (-1075) then ((math_Copysign.f (0 : Nat) bt105.1).bind fun t107 => (some t107)) else (if (wrap64 ((wrap64 (a1 + bt105.2)) + (wrap64 ((Go.bits .and .i64 (wrap64 (((bt105.1 : Nat) : Int) / 4503599627370496)) 2047) - 1023)))) > 1023 then (if ((FloatKind.f64.format.order bt105.1 (0 : Nat)) == some .lt) = true then ((math_Inf.f (-1)).bind fun t108 => (some t108)) else ((math_Inf.f 1).bind fun t109 => (some t109))) else (if (wrap64 ((wrap64 (a1 + bt105.2)) + (wrap64 ((Go.bits .and .i64 (wrap64 (((bt105.1 : Nat) : Int) / 4503599627370496)) 2047) - 1023)))) < (-1022) then (if ((floatBits .mul .f64 (4368491638549381120 : Nat) ((Go.bits .or .u64 (Go.bits .andNot .u64 ((bt105.1 : Nat) : Int) 9218868437227405312) (IntKind.u64.wrap ((IntKind.u64.wrap (wrap64 ((wrap64 ((wrap64 ((wrap64 (a1 + bt105.2)) + (wrap64 ((Go.bits .and .i64 (wrap64 (((bt105.1 : Nat) : Int) / 4503599627370496)) 2047) - 1023)))) + 53)) + 1023))) * 4503599627370496)) : Int).toNat)).isSome) = true then (some ((floatBits .mul .f64 (4368491638549381120 : Nat) ((Go.bits .or .u64 (Go.bits .andNot .u64 ((bt105.1 : Nat) : Int) 9218868437227405312) (IntKind.u64.wrap ((IntKind.u64.wrap (wrap64 ((wrap64 ((wrap64 ((wrap64 (a1 + bt105.2)) + (wrap64 ((Go.bits .and .i64 (wrap64 (((bt105.1 : Nat) : Int) / 4503599627370496)) 2047) - 1023)))) + 53)) + 1023))) * 4503599627370496)) : Int).toNat)).getD 0)) else (none)) else (if ((floatBits .mul .f64 (4607182418800017408 : Nat) ((Go.bits .or .u64 (Go.bits .andNot .u64 ((bt105.1 : Nat) : Int) 9218868437227405312) (IntKind.u64.wrap ((IntKind.u64.wrap (wrap64 ((wrap64 ((wrap64 (a1 + bt105.2)) + (wrap64 ((Go.bits .and .i64 (wrap64 (((bt105.1 : Nat) : Int) / 4503599627370496)) 2047) - 1023)))) + 1023))) * 4503599627370496)) : Int).toNat)).isSome) = true then (some ((floatBits .mul .f64 (4607182418800017408 : Nat) ((Go.bits .or .u64 (Go.bits .andNot .u64 ((bt105.1 : Nat) : Int) 9218868437227405312) (IntKind.u64.wrap ((IntKind.u64.wrap (wrap64 ((wrap64 ((wrap64 (a1 + bt105.2)) + (wrap64 ((Go.bits .and .i64 (wrap64 (((bt105.1 : Nat) : Int) / 4503599627370496)) 2047) - 1023)))) + 1023))) * 4503599627370496)) : Int).toNat)).getD 0)) else (none))))))))))
theorem math_ldexp.calls (a0 : Nat) (a1 : Int) (r : Nat) (w : World) (h : math_ldexp.f a0 a1 = some r) :
  Calls Tryz.prog 158 #[.float .f64 a0, .int .i64 a1] w fun e w' => e = .returned (.float .f64 r) ∧ Drawn0 w w' := by
 have H := h
 clear h
 unfold math_ldexp.f at H
 by_cases c3 : ((FloatKind.f64.format.order a0 (0 : Nat)) == some .eq) = true
 ·rw [if_pos c3] at H
  have c3b0 : ((FloatKind.f64.format.order a0 (0 : Nat)) == some .eq) = true := c3
  (try (have c3b1 : decide ((FloatKind.f64.format.order a0 (0 : Nat)) = some .eq) = true := by simpa using c3))
  (try (have c3b2 : ((FloatKind.f64.format.order a0 (0 : Nat)) == some .eq) = true := by simpa using c3))
  clear c3
  obtain rfl := Option.some.inj H
  go_enter Tryz.func158, Tryz.ntmps158
  go_wp2
  go_ret
  exact ⟨eqB, dn0⟩
 ·rw [if_neg c3] at H
  have c3b0 : ((FloatKind.f64.format.order a0 (0 : Nat)) == some .eq) = false := by simpa using c3
  (try (have c3b1 : decide ((FloatKind.f64.format.order a0 (0 : Nat)) = some .eq) = false := by simpa using c3))
  (try (have c3b2 : ((FloatKind.f64.format.order a0 (0 : Nat)) == some .eq) = false := by simpa using c3))
  (try (have c3b3 : ¬ ((FloatKind.f64.format.order a0 (0 : Nat)) = some .eq) := by simpa using c3))
  clear c3
  replace H := Option.bind_eq_some_iff.mp H
  obtain ⟨t103, A40, H⟩ := H
  have A4 := asd A40
  clear A40
  by_cases c5 : t103 = true
  ·subst c5
   rw [if_pos rfl] at H
   obtain rfl := Option.some.inj H
   go_enter Tryz.func158, Tryz.ntmps158
   go_wp2_with (first | ((with_reducible refine gate_callee (f := 43) rfl ?_); refine goesL_ (some 14) rfl rfl Tryz.func43 (by kernel_rfl) rfl #[.float .f64 a0, .int .i64 0] rfl eqA ?_; (with_reducible refine (math_IsInf.calls a0 0 true _ A4.out).mono ?_); rintro e w' ⟨rfl, ⟨nd, rfl⟩⟩; refine ⟨_, rfl, ?_⟩))
   go_ret
   exact ⟨eqB, dn0⟩
  ·replace c5 := Bool.eq_false_iff.mpr c5
   subst c5
   rw [if_neg (show ¬ (false = true) by decide)] at H
   replace H := Option.bind_eq_some_iff.mp H
   obtain ⟨t104, A60, H⟩ := H
   have A6 := asd A60
   clear A60
   by_cases c7 : t104 = true
   ·subst c7
    rw [if_pos rfl] at H
    obtain rfl := Option.some.inj H
    go_enter Tryz.func158, Tryz.ntmps158
    go_wp2_with (first | ((with_reducible refine gate_callee (f := 43) rfl ?_); refine goesL_ (some 14) rfl rfl Tryz.func43 (by kernel_rfl) rfl #[.float .f64 a0, .int .i64 0] rfl eqA ?_; (with_reducible refine (math_IsInf.calls a0 0 false _ A4.out).mono ?_); rintro e w' ⟨rfl, ⟨nd, rfl⟩⟩; refine ⟨_, rfl, ?_⟩) | (go_at_call 122; (with_reducible refine (math_IsNaN.calls a0 true _ A6.out).mono ?_); rintro e w' ⟨rfl, ⟨nd, rfl⟩⟩))
    go_ret
    exact ⟨eqB, dn0⟩
   ·replace c7 := Bool.eq_false_iff.mpr c7
    subst c7
    rw [if_neg (show ¬ (false = true) by decide)] at H
    replace H := Option.bind_eq_some_iff.mp H
    obtain ⟨⟨t105, t106⟩, A80, H⟩ := H
    replace H : (if (wrap64 ((wrap64 (a1 + t106)) + (wrap64 ((Go.bits .and .i64 (wrap64 (((t105 : Nat) : Int) / 4503599627370496)) 2047) - 1023)))) < (-1075) then ((math_Copysign.f (0 : Nat) t105).bind fun t107 => (some t107)) else (if (wrap64 ((wrap64 (a1 + t106)) + (wrap64 ((Go.bits .and .i64 (wrap64 (((t105 : Nat) : Int) / 4503599627370496)) 2047) - 1023)))) > 1023 then (if ((FloatKind.f64.format.order t105 (0 : Nat)) == some .lt) = true then ((math_Inf.f (-1)).bind fun t108 => (some t108)) else ((math_Inf.f 1).bind fun t109 => (some t109))) else (if (wrap64 ((wrap64 (a1 + t106)) + (wrap64 ((Go.bits .and .i64 (wrap64 (((t105 : Nat) : Int) / 4503599627370496)) 2047) - 1023)))) < (-1022) then (if ((floatBits .mul .f64 (4368491638549381120 : Nat) ((Go.bits .or .u64 (Go.bits .andNot .u64 ((t105 : Nat) : Int) 9218868437227405312) (IntKind.u64.wrap ((IntKind.u64.wrap (wrap64 ((wrap64 ((wrap64 ((wrap64 (a1 + t106)) + (wrap64 ((Go.bits .and .i64 (wrap64 (((t105 : Nat) : Int) / 4503599627370496)) 2047) - 1023)))) + 53)) + 1023))) * 4503599627370496)) : Int).toNat)).isSome) = true then (some ((floatBits .mul .f64 (4368491638549381120 : Nat) ((Go.bits .or .u64 (Go.bits .andNot .u64 ((t105 : Nat) : Int) 9218868437227405312) (IntKind.u64.wrap ((IntKind.u64.wrap (wrap64 ((wrap64 ((wrap64 ((wrap64 (a1 + t106)) + (wrap64 ((Go.bits .and .i64 (wrap64 (((t105 : Nat) : Int) / 4503599627370496)) 2047) - 1023)))) + 53)) + 1023))) * 4503599627370496)) : Int).toNat)).getD 0)) else (none)) else (if ((floatBits .mul .f64 (4607182418800017408 : Nat) ((Go.bits .or .u64 (Go.bits .andNot .u64 ((t105 : Nat) : Int) 9218868437227405312) (IntKind.u64.wrap ((IntKind.u64.wrap (wrap64 ((wrap64 ((wrap64 (a1 + t106)) + (wrap64 ((Go.bits .and .i64 (wrap64 (((t105 : Nat) : Int) / 4503599627370496)) 2047) - 1023)))) + 1023))) * 4503599627370496)) : Int).toNat)).isSome) = true then (some ((floatBits .mul .f64 (4607182418800017408 : Nat) ((Go.bits .or .u64 (Go.bits .andNot .u64 ((t105 : Nat) : Int) 9218868437227405312) (IntKind.u64.wrap ((IntKind.u64.wrap (wrap64 ((wrap64 ((wrap64 (a1 + t106)) + (wrap64 ((Go.bits .and .i64 (wrap64 (((t105 : Nat) : Int) / 4503599627370496)) 2047) - 1023)))) + 1023))) * 4503599627370496)) : Int).toNat)).getD 0)) else (none))))) = some r := H
    have A8 := asd A80
    clear A80
    by_cases c9 : (wrap64 ((wrap64 (a1 + t106)) + (wrap64 ((Go.bits .and .i64 (wrap64 (((t105 : Nat) : Int) / 4503599627370496)) 2047) - 1023)))) < (-1075)
    ·rw [if_pos c9] at H
     have c9b0 := decide_eq_true c9
     clear c9
     replace H := Option.bind_eq_some_iff.mp H
     obtain ⟨t107, A100, H⟩ := H
     have A10 := asd A100
     clear A100
     obtain rfl := Option.some.inj H
     go_enter Tryz.func158, Tryz.ntmps158
     go_wp2_with (first | ((with_reducible refine gate_callee (f := 43) rfl ?_); refine goesL_ (some 14) rfl rfl Tryz.func43 (by kernel_rfl) rfl #[.float .f64 a0, .int .i64 0] rfl eqA ?_; (with_reducible refine (math_IsInf.calls a0 0 false _ A4.out).mono ?_); rintro e w' ⟨rfl, ⟨nd, rfl⟩⟩; refine ⟨_, rfl, ?_⟩) | (go_at_call 122; (with_reducible refine (math_IsNaN.calls a0 false _ A6.out).mono ?_); rintro e w' ⟨rfl, ⟨nd, rfl⟩⟩) | ((with_reducible refine gate_callee (f := 160) rfl ?_); refine goesL_ (some 22) rfl rfl Tryz.func160 (by kernel_rfl) rfl #[.float .f64 a0] rfl eqA ?_; (with_reducible refine (math_normalize.calls a0 t105 t106 _ A8.out).mono ?_); rintro e w' ⟨rfl, ⟨nd, rfl⟩⟩; refine ⟨_, rfl, ?_⟩) | ((with_reducible refine gate_callee (f := 55) rfl ?_); refine goesL_ (some 40) rfl rfl Tryz.func55 (by kernel_rfl) rfl #[.float .f64 (0 : Nat), .float .f64 t105] rfl eqA ?_; (with_reducible refine (math_Copysign.calls (0 : Nat) t105 t107 _ A10.out).mono ?_); rintro e w' ⟨rfl, ⟨nd, rfl⟩⟩; refine ⟨_, rfl, ?_⟩))
     go_ret
     exact ⟨eqB, dn0⟩
    ·rw [if_neg c9] at H
     have c9b0 := decide_eq_false c9
     clear c9
     by_cases c11 : (wrap64 ((wrap64 (a1 + t106)) + (wrap64 ((Go.bits .and .i64 (wrap64 (((t105 : Nat) : Int) / 4503599627370496)) 2047) - 1023)))) > 1023
     ·rw [if_pos c11] at H
      have c11b0 := decide_eq_true c11
      clear c11
      by_cases c12 : ((FloatKind.f64.format.order t105 (0 : Nat)) == some .lt) = true
      ·rw [if_pos c12] at H
       have c12b0 : ((FloatKind.f64.format.order t105 (0 : Nat)) == some .lt) = true := c12
       (try (have c12b1 : decide ((FloatKind.f64.format.order t105 (0 : Nat)) = some .lt) = true := by simpa using c12))
       (try (have c12b2 : ((FloatKind.f64.format.order t105 (0 : Nat)) == some .lt) = true := by simpa using c12))
       clear c12
       replace H := Option.bind_eq_some_iff.mp H
       obtain ⟨t108, A130, H⟩ := H
       have A13 := asd A130
       clear A130
       obtain rfl := Option.some.inj H
       go_enter Tryz.func158, Tryz.ntmps158
       go_wp2_with (first | ((with_reducible refine gate_callee (f := 43) rfl ?_); refine goesL_ (some 14) rfl rfl Tryz.func43 (by kernel_rfl) rfl #[.float .f64 a0, .int .i64 0] rfl eqA ?_; (with_reducible refine (math_IsInf.calls a0 0 false _ A4.out).mono ?_); rintro e w' ⟨rfl, ⟨nd, rfl⟩⟩; refine ⟨_, rfl, ?_⟩) | (go_at_call 122; (with_reducible refine (math_IsNaN.calls a0 false _ A6.out).mono ?_); rintro e w' ⟨rfl, ⟨nd, rfl⟩⟩) | ((with_reducible refine gate_callee (f := 160) rfl ?_); refine goesL_ (some 22) rfl rfl Tryz.func160 (by kernel_rfl) rfl #[.float .f64 a0] rfl eqA ?_; (with_reducible refine (math_normalize.calls a0 t105 t106 _ A8.out).mono ?_); rintro e w' ⟨rfl, ⟨nd, rfl⟩⟩; refine ⟨_, rfl, ?_⟩) | ((with_reducible refine gate_callee (f := 109) rfl ?_); refine goesL_ (some 45) rfl rfl Tryz.func109 (by kernel_rfl) rfl #[.int .i64 (-1)] rfl eqA ?_; (with_reducible refine (math_Inf.calls (-1) t108 _ A13.out).mono ?_); rintro e w' ⟨rfl, ⟨nd, rfl⟩⟩; refine ⟨_, rfl, ?_⟩))
       go_ret
       exact ⟨eqB, dn0⟩
      ·rw [if_neg c12] at H
       have c12b0 : ((FloatKind.f64.format.order t105 (0 : Nat)) == some .lt) = false := by simpa using c12
       (try (have c12b1 : decide ((FloatKind.f64.format.order t105 (0 : Nat)) = some .lt) = false := by simpa using c12))
       (try (have c12b2 : ((FloatKind.f64.format.order t105 (0 : Nat)) == some .lt) = false := by simpa using c12))
       (try (have c12b3 : ¬ ((FloatKind.f64.format.order t105 (0 : Nat)) = some .lt) := by simpa using c12))
       clear c12
       replace H := Option.bind_eq_some_iff.mp H
       obtain ⟨t109, A140, H⟩ := H
       have A14 := asd A140
       clear A140
       obtain rfl := Option.some.inj H
       go_enter Tryz.func158, Tryz.ntmps158
       go_wp2_with (first | ((with_reducible refine gate_callee (f := 43) rfl ?_); refine goesL_ (some 14) rfl rfl Tryz.func43 (by kernel_rfl) rfl #[.float .f64 a0, .int .i64 0] rfl eqA ?_; (with_reducible refine (math_IsInf.calls a0 0 false _ A4.out).mono ?_); rintro e w' ⟨rfl, ⟨nd, rfl⟩⟩; refine ⟨_, rfl, ?_⟩) | (go_at_call 122; (with_reducible refine (math_IsNaN.calls a0 false _ A6.out).mono ?_); rintro e w' ⟨rfl, ⟨nd, rfl⟩⟩) | ((with_reducible refine gate_callee (f := 160) rfl ?_); refine goesL_ (some 22) rfl rfl Tryz.func160 (by kernel_rfl) rfl #[.float .f64 a0] rfl eqA ?_; (with_reducible refine (math_normalize.calls a0 t105 t106 _ A8.out).mono ?_); rintro e w' ⟨rfl, ⟨nd, rfl⟩⟩; refine ⟨_, rfl, ?_⟩) | ((with_reducible refine gate_callee (f := 109) rfl ?_); refine goesL_ (some 46) rfl rfl Tryz.func109 (by kernel_rfl) rfl #[.int .i64 1] rfl eqA ?_; (with_reducible refine (math_Inf.calls 1 t109 _ A14.out).mono ?_); rintro e w' ⟨rfl, ⟨nd, rfl⟩⟩; refine ⟨_, rfl, ?_⟩))
       go_ret
       exact ⟨eqB, dn0⟩
     ·rw [if_neg c11] at H
      have c11b0 := decide_eq_false c11
      clear c11
      by_cases c15 : (wrap64 ((wrap64 (a1 + t106)) + (wrap64 ((Go.bits .and .i64 (wrap64 (((t105 : Nat) : Int) / 4503599627370496)) 2047) - 1023)))) < (-1022)
      ·rw [if_pos c15] at H
       have c15b0 := decide_eq_true c15
       clear c15
       by_cases c16 : ((floatBits .mul .f64 (4368491638549381120 : Nat) ((Go.bits .or .u64 (Go.bits .andNot .u64 ((t105 : Nat) : Int) 9218868437227405312) (IntKind.u64.wrap ((IntKind.u64.wrap (wrap64 ((wrap64 ((wrap64 ((wrap64 (a1 + t106)) + (wrap64 ((Go.bits .and .i64 (wrap64 (((t105 : Nat) : Int) / 4503599627370496)) 2047) - 1023)))) + 53)) + 1023))) * 4503599627370496)) : Int).toNat)).isSome) = true
       ·rw [if_pos c16] at H
        have c16b0 := eq_true c16
        have c16b1 := decide_eq_true c16
        obtain rfl := Option.some.inj H
        go_enter Tryz.func158, Tryz.ntmps158
        go_wp2_with (first | ((with_reducible refine gate_callee (f := 43) rfl ?_); refine goesL_ (some 14) rfl rfl Tryz.func43 (by kernel_rfl) rfl #[.float .f64 a0, .int .i64 0] rfl eqA ?_; (with_reducible refine (math_IsInf.calls a0 0 false _ A4.out).mono ?_); rintro e w' ⟨rfl, ⟨nd, rfl⟩⟩; refine ⟨_, rfl, ?_⟩) | (go_at_call 122; (with_reducible refine (math_IsNaN.calls a0 false _ A6.out).mono ?_); rintro e w' ⟨rfl, ⟨nd, rfl⟩⟩) | ((with_reducible refine gate_callee (f := 160) rfl ?_); refine goesL_ (some 22) rfl rfl Tryz.func160 (by kernel_rfl) rfl #[.float .f64 a0] rfl eqA ?_; (with_reducible refine (math_normalize.calls a0 t105 t106 _ A8.out).mono ?_); rintro e w' ⟨rfl, ⟨nd, rfl⟩⟩; refine ⟨_, rfl, ?_⟩))
        go_ret
        exact ⟨eqB, dn0⟩
       ·rw [if_neg c16] at H
        exact absurd H (by simp)
      ·rw [if_neg c15] at H
       have c15b0 := decide_eq_false c15
       clear c15
       by_cases c17 : ((floatBits .mul .f64 (4607182418800017408 : Nat) ((Go.bits .or .u64 (Go.bits .andNot .u64 ((t105 : Nat) : Int) 9218868437227405312) (IntKind.u64.wrap ((IntKind.u64.wrap (wrap64 ((wrap64 ((wrap64 (a1 + t106)) + (wrap64 ((Go.bits .and .i64 (wrap64 (((t105 : Nat) : Int) / 4503599627370496)) 2047) - 1023)))) + 1023))) * 4503599627370496)) : Int).toNat)).isSome) = true
       ·rw [if_pos c17] at H
        have c17b0 := eq_true c17
        have c17b1 := decide_eq_true c17
        obtain rfl := Option.some.inj H
        go_enter Tryz.func158, Tryz.ntmps158
        go_wp2_with (first | ((with_reducible refine gate_callee (f := 43) rfl ?_); refine goesL_ (some 14) rfl rfl Tryz.func43 (by kernel_rfl) rfl #[.float .f64 a0, .int .i64 0] rfl eqA ?_; (with_reducible refine (math_IsInf.calls a0 0 false _ A4.out).mono ?_); rintro e w' ⟨rfl, ⟨nd, rfl⟩⟩; refine ⟨_, rfl, ?_⟩) | (go_at_call 122; (with_reducible refine (math_IsNaN.calls a0 false _ A6.out).mono ?_); rintro e w' ⟨rfl, ⟨nd, rfl⟩⟩) | ((with_reducible refine gate_callee (f := 160) rfl ?_); refine goesL_ (some 22) rfl rfl Tryz.func160 (by kernel_rfl) rfl #[.float .f64 a0] rfl eqA ?_; (with_reducible refine (math_normalize.calls a0 t105 t106 _ A8.out).mono ?_); rintro e w' ⟨rfl, ⟨nd, rfl⟩⟩; refine ⟨_, rfl, ?_⟩))
        go_ret
        exact ⟨eqB, dn0⟩
       ·rw [if_neg c17] at H
        exact absurd H (by simp)
def math_Ldexp.f (a0 : Nat) (a1 : Int) : Option (Nat) := (math_ldexp.f a0 a1).bind fun t110 => (some t110)
theorem math_Ldexp.calls (a0 : Nat) (a1 : Int) (r : Nat) (w : World) (h : math_Ldexp.f a0 a1 = some r) :
  Calls Tryz.prog 146 #[.float .f64 a0, .int .i64 a1] w fun e w' => e = .returned (.float .f64 r) ∧ Drawn0 w w' := by
 have H := h
 clear h
 unfold math_Ldexp.f at H
 replace H := Option.bind_eq_some_iff.mp H
 obtain ⟨t110, A30, H⟩ := H
 have A3 := asd A30
 clear A30
 obtain rfl := Option.some.inj H
 go_enter Tryz.func146, Tryz.ntmps146
 go_wp2_with (first | ((with_reducible refine gate_callee (f := 158) rfl ?_); refine goesL_ (some 10) rfl rfl Tryz.func158 (by kernel_rfl) rfl #[.float .f64 a0, .int .i64 a1] rfl eqA ?_; (with_reducible refine (math_ldexp.calls a0 a1 t110 _ A3.out).mono ?_); rintro e w' ⟨rfl, ⟨nd, rfl⟩⟩; refine ⟨_, rfl, ?_⟩))
 go_ret
 exact ⟨eqB, dn0⟩
end Go.Proofs.YthmeocigliephaaGreatDoor.PNl
end
section
namespace Go.Proofs.YthmeocigliephaaGreatDoor.Plain
open Go.RowKit Go.Proofs.YthmeocigliephaaGreatDoorW.PrintWords
open Ieee
def Fin64 (b : Nat) : Prop := b < 18446744073709551616 ∧ b % 9223372036854775808 < 9218868437227405312
instance instDecFin64 (b : Nat) : Decidable (Fin64 b) := inferInstanceAs (Decidable (_ ∧ _))
def frac (b : Nat) : Nat := b % 4503599627370496
def expo (b : Nat) : Nat := b / 4503599627370496 % 2048
def sgn (b : Nat) : Bool := decide (9223372036854775808 ≤ b)
def manti (b : Nat) : Nat := if expo b = 0 then frac b else frac b + 4503599627370496
def expoV (b : Nat) : Int := (if expo b = 0 then 1 else (expo b : Int)) - 1075
theorem manti_lt (b : Nat) : manti b < 9007199254740992 := by unfold manti frac; split <;> omega
theorem sw : double.signWeight = 9223372036854775808 := by decide
theorem bn : double.binade = 4503599627370496 := by decide
theorem ir : double.infRung = 9218868437227405312 := by decide
theorem lp : double.leastPlace = -1074 := by decide
theorem read_fin {b : Nat} (h : Fin64 b) : double.read b = .number (sgn b) (manti b) (expoV b) := by
  obtain ⟨h1, h2⟩ := h
  unfold Format.read
  simp only [sw, bn, ir, lp]
  have hs : (b / 9223372036854775808 % 2 == 1) = sgn b := by
    unfold sgn
    by_cases h : 9223372036854775808 ≤ b
    · rw [decide_eq_true h]; simp; omega
    · rw [decide_eq_false h]; simp; omega
  rw [hs]
  have hf : b % 9223372036854775808 % 4503599627370496 = frac b := by unfold frac; omega
  have he : b % 9223372036854775808 / 4503599627370496 = expo b := by unfold expo; omega
  by_cases h0 : b % 9223372036854775808 < 4503599627370496
  · rw [if_pos h0]
    have e0 : expo b = 0 := by rw [← he]; omega
    unfold manti expoV
    rw [if_pos e0, if_pos e0]
    congr 1
    unfold frac; omega
  · rw [if_neg h0, if_pos h2, hf, he]
    have e0 : expo b ≠ 0 := by rw [← he]; omega
    unfold manti expoV
    rw [if_neg e0, if_neg e0]
    congr 1
    · omega
    · omega
theorem order_self {b : Nat} (h : Fin64 b) : FloatKind.f64.format.order b b = some .eq := by
  show double.order b b = _
  unfold Format.order
  rw [read_fin h]
  unfold Datum.order
  simp
theorem fin_abs {b : Nat} (h : Fin64 b) : Fin64 (b % 9223372036854775808) := ⟨by have := h.2; omega, by have := h.2; omega⟩
theorem sgn_abs (b : Nat) : sgn (b % 9223372036854775808) = false := by unfold sgn; rw [decide_eq_false (by omega)]
theorem expo_le {b : Nat} (h : Fin64 b) : expo b ≤ 2046 := by have := h.2; unfold expo; omega
theorem order_max {b : Nat} (h : Fin64 b) : (FloatKind.f64.format.order (b % 9223372036854775808) 9218868437227405311 == some .gt) = false := by
  have hm : Fin64 9218868437227405311 := ⟨by omega, by omega⟩
  show (double.order _ _ == _) = _
  unfold Format.order
  rw [read_fin (fin_abs h), read_fin hm, sgn_abs, show sgn 9218868437227405311 = false by decide, show manti 9218868437227405311 = 9007199254740991 by decide, show expoV 9218868437227405311 = 971 by decide]
  unfold Datum.order
  have he := expo_le (fin_abs h)
  have hmt := manti_lt (b % 9223372036854775808)
  generalize manti (b % 9223372036854775808) = m at hmt
  have hp : expoV (b % 9223372036854775808) ≤ 971 := by unfold expoV; split <;> omega
  generalize expoV (b % 9223372036854775808) = p at hp
  simp only
  rw [show min p 971 = p by omega, Int.sub_self]
  obtain ⟨k, hk⟩ : ∃ k : Nat, 971 - p = (k : Int) := ⟨(971 - p).toNat, by omega⟩
  rw [hk, Int.toNat_natCast]
  unfold signed
  simp only [Bool.false_eq_true, if_false, Int.toNat_zero, Nat.shiftLeft_zero]
  have h1 : 9007199254740991 <<< k = 9007199254740991 * 2 ^ k := Nat.shiftLeft_eq _ _
  have h2 : 0 < 2 ^ k := Nat.pow_pos (by omega)
  have h3 : (m : Int) ≤ ((9007199254740991 <<< k : Nat) : Int) := by
    rw [h1]
    have : 9007199254740991 * 1 ≤ 9007199254740991 * 2 ^ k := Nat.mul_le_mul_left _ h2
    omega
  rw [beq_eq_false_iff_ne]
  intro hc
  have hc := Option.some.inj hc
  rw [Int.compare_eq_gt] at hc
  omega
end Go.Proofs.YthmeocigliephaaGreatDoor.Plain
end
section
namespace Go.Proofs.YthmeocigliephaaGreatDoor.Plain
open Go.RowKit Go.Proofs.YthmeocigliephaaGreatDoorW.PrintWords
theorem bits_abs (b : Nat) (h : b < 18446744073709551616) : bits .andNot .u64 (b : Int) 9223372036854775808 = ((b % 9223372036854775808 : Nat) : Int) := by
  have h1 : (BitVec.ofInt 64 (b : Int)).toNat = b := by
    rw [BitVec.ofInt_natCast, BitVec.toNat_ofNat]; exact Nat.mod_eq_of_lt (by omega)
  have h2 : ((~~~(BitVec.ofInt 64 (9223372036854775808 : Int)) : BitVec 64)).toNat = 9223372036854775807 := by decide
  show IntKind.u64.wrap ((BitVec.ofInt 64 (b : Int) &&& ~~~(BitVec.ofInt 64 (9223372036854775808 : Int))).toNat : Int) = _
  rw [BitVec.toNat_and, h1, h2, show (9223372036854775807 : Nat) = 2 ^ 63 - 1 by decide, Nat.and_two_pow_sub_one_eq_mod, IntKind.wrap_u64]
  omega
theorem abs_law (b : Nat) (h : b < 18446744073709551616) : PNl.math_Abs.f b = some (b % 9223372036854775808) := by
  unfold PNl.math_Abs.f
  rw [bits_abs b h, Int.toNat_natCast]
theorem isInf_fin {b : Nat} (h : Fin64 b) : PNl.math_IsInf.f b 0 = some false := by
  unfold PNl.math_IsInf.f
  rw [if_pos rfl, abs_law b h.1, Option.bind_some, order_max h]
theorem isNaN_fin {b : Nat} (h : Fin64 b) : PNl.math_IsNaN.f b = some false := by
  unfold PNl.math_IsNaN.f
  rw [order_self h]; rfl
theorem bits_frac (b : Nat) (h : b < 18446744073709551616) : bits .and .u64 (b : Int) 4503599627370495 = (frac b : Int) := by
  rw [show (4503599627370495 : Int) = ((4503599627370495 : Nat) : Int) from rfl, bits_and_u64_nat b _ h (by omega), show (4503599627370495 : Nat) = 2 ^ 52 - 1 by decide, Nat.and_two_pow_sub_one_eq_mod]; rfl
theorem bits_expo (b : Nat) (h : b < 18446744073709551616) : bits .and .u64 ((b : Int) / 4503599627370496) 2047 = (expo b : Int) := by
  rw [show ((b : Int) / 4503599627370496) = ((b / 4503599627370496 : Nat) : Int) by omega, show (2047 : Int) = ((2047 : Nat) : Int) from rfl, bits_and_u64_nat _ _ (by omega) (by omega), show (2047 : Nat) = 2 ^ 11 - 1 by decide, Nat.and_two_pow_sub_one_eq_mod]; rfl
theorem bits_one (b : Nat) : bits .or .u64 (frac b : Int) 4503599627370496 = ((frac b + 4503599627370496 : Nat) : Int) := by
  have hf : frac b < 4503599627370496 := by unfold frac; omega
  rw [show (4503599627370496 : Int) = ((2 ^ 52 * 1 : Nat) : Int) from rfl, bits_or_u64_nat _ _ (by omega) (by omega), Nat.or_comm, or_add (by omega)]; omega
end Go.Proofs.YthmeocigliephaaGreatDoor.Plain
namespace Go.Proofs.YthmeocigliephaaGreatDoor.Big
open Go.Proofs.YthmeocigliephaaGreatDoor.PNa Go.Proofs.YthmeocigliephaaGreatDoor.Plain
attribute [local go_sem] f64bits_run f64from_run
def floV (b : Nat) : Int := if sgn b then -(manti b : Int) else manti b
theorem floV_natAbs (b : Nat) : (floV b).natAbs = manti b := by unfold floV; cases sgn b <;> simp
theorem of_num (b : Nat) (w : World) (hb : Fin64 b) (hL : Laid w) :
    Calls Tryz.prog 90 #[.float .f64 b] w (RetNum (mkN (floV b) (expoV b)) w) := by
  have H1 := asd (isNaN_fin hb)
  have H2 := asd (isInf_fin hb)
  have q1 := bits_frac b hb.1
  have q2 := bits_expo b hb.1
  have q3 := bits_one b
  have hex := expo_le hb
  have hml := manti_lt b
  have HV := asd (floV_natAbs b)
  have hsg : (((b : Int) / 9223372036854775808) == 1) = sgn b := by
    have := hb.1
    unfold sgn
    by_cases h : 9223372036854775808 ≤ b
    · rw [decide_eq_true h]; simp; omega
    · rw [decide_eq_false h]; simp; omega
  have HM := asd (show manti b < 18446744073709551616 by omega)
  have HSM := asd (show Short (manti b) from Short.of (k := 2) (Nat.lt_of_lt_of_le hml (by decide)) (by omega))
  have HB := asd hb
  have HL := asd hL
  have hE : -1074 ≤ expoV b ∧ expoV b ≤ 971 := by unfold expoV; split <;> omega
  have F3 := asd (show (-1000000 : Int) ≤ expoV b by omega)
  have F4 := asd (show expoV b ≤ (1000000 : Int) by omega)
  obtain ⟨s, hs⟩ : ∃ s, sgn b = s := ⟨_, rfl⟩
  rw [hs] at hsg
  obtain ⟨m, hm⟩ : ∃ m, manti b = m := ⟨_, rfl⟩
  obtain ⟨E, hEE⟩ : ∃ E, expoV b = E := ⟨_, rfl⟩
  have hfv : floV b = if s then -(m : Int) else m := by unfold floV; rw [hs, hm]
  rw [hm] at HM HSM HV hml
  rw [hEE] at F3 F4 ⊢
  rw [hfv] at HV ⊢
  by_cases h0 : expo b = 0
  · have em : frac b = m := by rw [← hm]; unfold manti; rw [if_pos h0]
    rw [em] at q1 q3
    obtain rfl : E = -1074 := by rw [← hEE]; unfold expoV; rw [if_pos h0]; rfl
    rw [h0] at q2
    clear hb hL hm hEE hfv h0 em hE hex q3 hs
    cases s
    · go_enter Tryz.func90, Tryz.ntmps90
      go_wp2_with (first
        | (go_at_call 122; refine (PNl.math_IsNaN.calls b false _ H1.out).mono ?_; rintro e1 w2 ⟨rfl, d2⟩; have B2 := asd (below_post d2.below ((Below.refl _ _).alloc (Nat.le_refl _) _)); have N2 := asd (show NumB w2 w.heap.size false (.slice none 0 0) 0 from NumB.below (blk_new _ _) d2.below); clear d2)
        | (go_at_call 43; refine (PNl.math_IsInf.calls b 0 false _ H2.out).mono ?_; rintro e1 w3 ⟨rfl, d3⟩; have B3 := asd (below_post d3.below B2.out); have N3 := asd (N2.out.below d3.below); have Z3 := asd (ZB.new' w3 false none 0 0); have lt3 := asd (blk_lt N3.out); clear d3)
        | (go_at_call 123; refine (setUint64_any _ m _ Z3.out HM.out).mono ?_; rintro e1 w4 ⟨rfl, o4, i4⟩; have N4 := asd ((N3.out.below ((Below.refl _ _).alloc (Nat.le_refl _) _)).only o4 (by have := lt3.out; omega)); have B4 := asd (below_only (B3.out.alloc B3.out.size _) o4 (B3.out.alloc B3.out.size _).size B3.out.size); have I4 := asd i4; clear o4 i4)
        | (go_at_call 124; refine (neg_any _ _ m _ I4.out.z I4.out).mono ?_; rintro e1 w5 ⟨rfl, o5, i5⟩; have N5 := N4.out.only o5 (by have := lt3.out; omega); have B5 := below_only B4.out o5 B4.out.size B3.out.size; clear N4 B4 I4; have N4 := asd N5; have B4 := asd B5; have I4 := asd i5; clear o5 i5 N5 B5)
        | (go_at_call 103; refine (num_any _ _ _ _ I4.out (by have := HV.out; simpa using HSM.out) (HL.out.step B4.out) F3.out F4.out).mono ?_; rintro e1 w9 ⟨u, rfl, r9, b9⟩; obtain ⟨Au, cu, hu⟩ := Kd.R_slice r9; subst hu; have N9 := N4.out.below b9; have p0 := N9.c0; have p1 := N9.c1; have p2 := N9.c2; have p3 := N9.fr 0; have p4 := N9.fr 1; have p5 := N9.fr 2; have R9 := asd r9; have B9 := asd (below_post b9 B4.out); have lt9 := asd (blk_lt N4.out); clear b9 r9 N9))
      refine bodyPost_ret (v := .tuple #[.agg #[.bool (mkN (m : Int) (-1074)).1, .slice Au (mkN (m : Int) (-1074)).2.1.length cu, .int .i64 (mkN (m : Int) (-1074)).2.2.1], .int .i64 (mkN (m : Int) (-1074)).2.2.2]) (by simp [results, Tryz.results90, go_sem, p0, p1, p2, p3, p4, p5]) rfl ?_
      have l9 := lt9.out
      exact ⟨_, rfl, Kd.R_lower (r_set (r_set (r_set R9.out _ (by simpa using l9) _) _ (by simpa using l9) _) _ (by simpa using l9) _) B4.out.size, ((B9.out.setCell (by simp) _).setCell (by simp) _).setCell (by simp) _⟩
    · go_enter Tryz.func90, Tryz.ntmps90
      go_wp2_with (first
        | (go_at_call 122; refine (PNl.math_IsNaN.calls b false _ H1.out).mono ?_; rintro e1 w2 ⟨rfl, d2⟩; have B2 := asd (below_post d2.below ((Below.refl _ _).alloc (Nat.le_refl _) _)); have N2 := asd (show NumB w2 w.heap.size false (.slice none 0 0) 0 from NumB.below (blk_new _ _) d2.below); clear d2)
        | (go_at_call 43; refine (PNl.math_IsInf.calls b 0 false _ H2.out).mono ?_; rintro e1 w3 ⟨rfl, d3⟩; have B3 := asd (below_post d3.below B2.out); have N3 := asd (N2.out.below d3.below); have Z3 := asd (ZB.new' w3 false none 0 0); have lt3 := asd (blk_lt N3.out); clear d3)
        | (go_at_call 123; refine (setUint64_any _ m _ Z3.out HM.out).mono ?_; rintro e1 w4 ⟨rfl, o4, i4⟩; have N4 := asd ((N3.out.below ((Below.refl _ _).alloc (Nat.le_refl _) _)).only o4 (by have := lt3.out; omega)); have B4 := asd (below_only (B3.out.alloc B3.out.size _) o4 (B3.out.alloc B3.out.size _).size B3.out.size); have I4 := asd i4; clear o4 i4)
        | (go_at_call 124; refine (neg_any _ _ m _ I4.out.z I4.out).mono ?_; rintro e1 w5 ⟨rfl, o5, i5⟩; have N5 := N4.out.only o5 (by have := lt3.out; omega); have B5 := below_only B4.out o5 B4.out.size B3.out.size; clear N4 B4 I4; have N4 := asd N5; have B4 := asd B5; have I4 := asd i5; clear o5 i5 N5 B5)
        | (go_at_call 103; refine (num_any _ _ _ _ I4.out (by have := HV.out; simpa using HSM.out) (HL.out.step B4.out) F3.out F4.out).mono ?_; rintro e1 w9 ⟨u, rfl, r9, b9⟩; obtain ⟨Au, cu, hu⟩ := Kd.R_slice r9; subst hu; have N9 := N4.out.below b9; have p0 := N9.c0; have p1 := N9.c1; have p2 := N9.c2; have p3 := N9.fr 0; have p4 := N9.fr 1; have p5 := N9.fr 2; have R9 := asd r9; have B9 := asd (below_post b9 B4.out); have lt9 := asd (blk_lt N4.out); clear b9 r9 N9))
      refine bodyPost_ret (v := .tuple #[.agg #[.bool (mkN (-(m : Int)) (-1074)).1, .slice Au (mkN (-(m : Int)) (-1074)).2.1.length cu, .int .i64 (mkN (-(m : Int)) (-1074)).2.2.1], .int .i64 (mkN (-(m : Int)) (-1074)).2.2.2]) (by simp [results, Tryz.results90, go_sem, p0, p1, p2, p3, p4, p5]) rfl ?_
      have l9 := lt9.out
      exact ⟨_, rfl, Kd.R_lower (r_set (r_set (r_set R9.out _ (by simpa using l9) _) _ (by simpa using l9) _) _ (by simpa using l9) _) B4.out.size, ((B9.out.setCell (by simp) _).setCell (by simp) _).setCell (by simp) _⟩
  · have em : frac b + 4503599627370496 = m := by rw [← hm]; unfold manti; rw [if_neg h0]
    rw [em] at q3
    have eE : (expo b : Int) - 1075 = E := by rw [← hEE]; unfold expoV; rw [if_neg h0]
    have ex0 : (expo b : Int) ≤ 2046 := by omega
    have ex1 : (0 : Int) ≤ (expo b : Int) := by omega
    have ext : ((expo b : Int) == 0) = false := by simp; omega
    clear hb hL hm hEE hfv h0 em hE hex hs
    cases s
    · go_enter Tryz.func90, Tryz.ntmps90
      go_wp2_with (first
        | (go_at_call 122; refine (PNl.math_IsNaN.calls b false _ H1.out).mono ?_; rintro e1 w2 ⟨rfl, d2⟩; have B2 := asd (below_post d2.below ((Below.refl _ _).alloc (Nat.le_refl _) _)); have N2 := asd (show NumB w2 w.heap.size false (.slice none 0 0) 0 from NumB.below (blk_new _ _) d2.below); clear d2)
        | (go_at_call 43; refine (PNl.math_IsInf.calls b 0 false _ H2.out).mono ?_; rintro e1 w3 ⟨rfl, d3⟩; have B3 := asd (below_post d3.below B2.out); have N3 := asd (N2.out.below d3.below); have Z3 := asd (ZB.new' w3 false none 0 0); have lt3 := asd (blk_lt N3.out); clear d3)
        | (go_at_call 123; refine (setUint64_any _ m _ Z3.out HM.out).mono ?_; rintro e1 w4 ⟨rfl, o4, i4⟩; have N4 := asd ((N3.out.below ((Below.refl _ _).alloc (Nat.le_refl _) _)).only o4 (by have := lt3.out; omega)); have B4 := asd (below_only (B3.out.alloc B3.out.size _) o4 (B3.out.alloc B3.out.size _).size B3.out.size); have I4 := asd i4; clear o4 i4)
        | (go_at_call 124; refine (neg_any _ _ m _ I4.out.z I4.out).mono ?_; rintro e1 w5 ⟨rfl, o5, i5⟩; have N5 := N4.out.only o5 (by have := lt3.out; omega); have B5 := below_only B4.out o5 B4.out.size B3.out.size; clear N4 B4 I4; have N4 := asd N5; have B4 := asd B5; have I4 := asd i5; clear o5 i5 N5 B5)
        | (go_at_call 103; refine (num_any _ _ _ _ I4.out (by have := HV.out; simpa using HSM.out) (HL.out.step B4.out) F3.out F4.out).mono ?_; rintro e1 w9 ⟨u, rfl, r9, b9⟩; obtain ⟨Au, cu, hu⟩ := Kd.R_slice r9; subst hu; have N9 := N4.out.below b9; have p0 := N9.c0; have p1 := N9.c1; have p2 := N9.c2; have p3 := N9.fr 0; have p4 := N9.fr 1; have p5 := N9.fr 2; have R9 := asd r9; have B9 := asd (below_post b9 B4.out); have lt9 := asd (blk_lt N4.out); clear b9 r9 N9))
      refine bodyPost_ret (v := .tuple #[.agg #[.bool (mkN (m : Int) E).1, .slice Au (mkN (m : Int) E).2.1.length cu, .int .i64 (mkN (m : Int) E).2.2.1], .int .i64 (mkN (m : Int) E).2.2.2]) (by simp [results, Tryz.results90, go_sem, p0, p1, p2, p3, p4, p5]) rfl ?_
      have l9 := lt9.out
      exact ⟨_, rfl, Kd.R_lower (r_set (r_set (r_set R9.out _ (by simpa using l9) _) _ (by simpa using l9) _) _ (by simpa using l9) _) B4.out.size, ((B9.out.setCell (by simp) _).setCell (by simp) _).setCell (by simp) _⟩
    · go_enter Tryz.func90, Tryz.ntmps90
      go_wp2_with (first
        | (go_at_call 122; refine (PNl.math_IsNaN.calls b false _ H1.out).mono ?_; rintro e1 w2 ⟨rfl, d2⟩; have B2 := asd (below_post d2.below ((Below.refl _ _).alloc (Nat.le_refl _) _)); have N2 := asd (show NumB w2 w.heap.size false (.slice none 0 0) 0 from NumB.below (blk_new _ _) d2.below); clear d2)
        | (go_at_call 43; refine (PNl.math_IsInf.calls b 0 false _ H2.out).mono ?_; rintro e1 w3 ⟨rfl, d3⟩; have B3 := asd (below_post d3.below B2.out); have N3 := asd (N2.out.below d3.below); have Z3 := asd (ZB.new' w3 false none 0 0); have lt3 := asd (blk_lt N3.out); clear d3)
        | (go_at_call 123; refine (setUint64_any _ m _ Z3.out HM.out).mono ?_; rintro e1 w4 ⟨rfl, o4, i4⟩; have N4 := asd ((N3.out.below ((Below.refl _ _).alloc (Nat.le_refl _) _)).only o4 (by have := lt3.out; omega)); have B4 := asd (below_only (B3.out.alloc B3.out.size _) o4 (B3.out.alloc B3.out.size _).size B3.out.size); have I4 := asd i4; clear o4 i4)
        | (go_at_call 124; refine (neg_any _ _ m _ I4.out.z I4.out).mono ?_; rintro e1 w5 ⟨rfl, o5, i5⟩; have N5 := N4.out.only o5 (by have := lt3.out; omega); have B5 := below_only B4.out o5 B4.out.size B3.out.size; clear N4 B4 I4; have N4 := asd N5; have B4 := asd B5; have I4 := asd i5; clear o5 i5 N5 B5)
        | (go_at_call 103; refine (num_any _ _ _ _ I4.out (by have := HV.out; simpa using HSM.out) (HL.out.step B4.out) F3.out F4.out).mono ?_; rintro e1 w9 ⟨u, rfl, r9, b9⟩; obtain ⟨Au, cu, hu⟩ := Kd.R_slice r9; subst hu; have N9 := N4.out.below b9; have p0 := N9.c0; have p1 := N9.c1; have p2 := N9.c2; have p3 := N9.fr 0; have p4 := N9.fr 1; have p5 := N9.fr 2; have R9 := asd r9; have B9 := asd (below_post b9 B4.out); have lt9 := asd (blk_lt N4.out); clear b9 r9 N9))
      refine bodyPost_ret (v := .tuple #[.agg #[.bool (mkN (-(m : Int)) E).1, .slice Au (mkN (-(m : Int)) E).2.1.length cu, .int .i64 (mkN (-(m : Int)) E).2.2.1], .int .i64 (mkN (-(m : Int)) E).2.2.2]) (by simp [results, Tryz.results90, go_sem, p0, p1, p2, p3, p4, p5]) rfl ?_
      have l9 := lt9.out
      exact ⟨_, rfl, Kd.R_lower (r_set (r_set (r_set R9.out _ (by simpa using l9) _) _ (by simpa using l9) _) _ (by simpa using l9) _) B4.out.size, ((B9.out.setCell (by simp) _).setCell (by simp) _).setCell (by simp) _⟩
end Go.Proofs.YthmeocigliephaaGreatDoor.Big
end
