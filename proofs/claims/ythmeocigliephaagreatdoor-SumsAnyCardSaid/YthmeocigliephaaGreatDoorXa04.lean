/- Parts of the proof, behind one another; unused words are left out. -/
import Derived.Test.YthmeocigliephaaGreatDoorXa03
import Derived.ArgAppend
import Derived.Below
import Derived.BigQuiet
import Derived.Deep.AppendLies
import Derived.Deep.CutBlock
import Derived.Deep.DeepCutAuto
import Derived.Deep.Draws
import Derived.Deep.LoopGhost
import Derived.Deep.OwnRows
import Derived.Deep.QuietTactic
import Derived.Deep.RegionHeld3
import Derived.KernelRfl
import Derived.Laws.BitsLemmas
import Derived.Laws.BytesArg
import Derived.Laws.IdiomCopy
import Derived.Laws.MakeOwn
import Derived.Laws.OwnMore
import Derived.Laws.Rows
import Derived.Laws.Slices
import Derived.Lib.AppendStr
import Derived.Lib.ConvBytes
import Derived.Maps.AppendAt
import Derived.OrdersHeld
import Derived.OwnWalk
import Derived.RowKit
import Derived.RowKit3
import Derived.Tactics
import Derived.WalkKit
import Derived.WideLaws
import Derived.Test.YthmeocigliephaaGreatDoorProg
set_option linter.unusedVariables false
set_option linter.unusedSimpArgs false
set_option linter.unusedSectionVars false
set_option exponentiation.threshold 100000
set_option maxRecDepth 100000
set_option maxHeartbeats 8000000
open Go.RowKit Go.Proofs.YthmeocigliephaaGreatDoorW.PrintWords Go.Proofs.YthmeocigliephaaGreatDoorW.PrintLast Go.Proofs.YthmeocigliephaaGreatDoorW.PrintMore
section
namespace Go.Proofs.YthmeocigliephaaGreatDoor.Big
open Go.Proofs.YthmeocigliephaaGreatDoor.PSu Go.Proofs.YthmeocigliephaaGreatDoor.Plain
def RetRel (t : Nat) (w : World) (e : Ending) (w' : World) : Prop := ∃ r, relN r t ∧ r < 18446744073709551616 ∧ e = .returned (.float .f64 r) ∧ Below w.heap.size w w'
theorem rnum_fin (b : Nat) (w : World) (hb : Fin64 b) (hL : Laid w) :
    Calls Tryz.prog 115 #[.float .f64 b] w fun e w' => ∃ v1_ : Value, e = .returned (.agg #[.bool (canN (flz b) (-1074)).1, v1_, .int .i64 (canN (flz b) (-1074)).2.2]) ∧ Kd.R (Kd.int .u32) 83 w' w.heap.size (fun _ => True) v1_ (canN (flz b) (-1074)).2.1 ∧ Below w.heap.size w w' :=
  round_num.calls b _ _ _ w (by rw [rnum_law hb]) hL
theorem nought_fin (a b : Nat) (w : World) (ha : Fin64 a) (hb : Fin64 b) (h : flz a + flz b = 0) :
    Calls Tryz.prog 116 #[.float .f64 a, .float .f64 b, .int .i64 2] w fun e w' => e = .returned (.float .f64 (if sgn a = true ∧ sgn b = true then 9223372036854775808 else 0)) ∧ Below w.heap.size w w' := by
  have sa := asd (show math_Signbit.f a = some (sgn a) from signbit_law ha.1)
  have sb := asd (show math_Signbit.f b = some (sgn b) from signbit_law hb.1)
  have oa := oz_law ha
  have ob := oz_law hb
  have tok1 : True := trivial
  by_cases za : flz a = 0
  · have zb : flz b = 0 := by omega
    rw [decide_eq_true za] at oa
    rw [decide_eq_true zb] at ob
    clear ha hb h za zb
    rcases hx : sgn a with _ | _ <;> rcases hy : sgn b with _ | _ <;> rw [hx] at sa <;> rw [hy] at sb <;> clear hx hy
    all_goals
      go_enter Tryz.func116, Tryz.ntmps116
      go_wp2_with (first
        | (go_at_call 54; have _t := tok1; refine (math_Signbit.calls a _ _ sa.out).mono ?_; rintro e w1 ⟨rfl, d⟩; have B1 := asd d.below; clear d _t tok1)
        | (go_at_call 54; refine (math_Signbit.calls b _ _ sb.out).mono ?_; rintro e w2 ⟨rfl, d⟩; have B2 := asd (below_post d.below B1.out); clear d)
        | (go_at_call 55; refine (math_Copysign.calls 0 13830554455654793216 9223372036854775808 _ (by decide)).mono ?_; rintro e w3 ⟨rfl, d⟩; have B2 := asd (below_post d.below B2.out); clear d))
      go_ret
      exact ⟨rfl, B2.out⟩
  · have zb : flz b ≠ 0 := by omega
    rw [decide_eq_false za] at oa
    have hn : ¬ (sgn a = true ∧ sgn b = true) := by
      rw [sg_law za, sg_law zb, decide_eq_true_eq, decide_eq_true_eq]; omega
    rw [if_neg hn]
    clear ha hb h za zb ob hn
    obtain ⟨x, hx⟩ : ∃ x, sgn a = x := ⟨_, rfl⟩
    obtain ⟨y, hy⟩ : ∃ y, sgn b = y := ⟨_, rfl⟩
    rw [hx] at sa
    rw [hy] at sb
    clear hx hy
    go_enter Tryz.func116, Tryz.ntmps116
    go_wp2_with (first
      | (go_at_call 54; have _t := tok1; refine (math_Signbit.calls a _ _ sa.out).mono ?_; rintro e w1 ⟨rfl, d⟩; have B1 := asd d.below; clear d _t tok1)
      | (go_at_call 54; refine (math_Signbit.calls b _ _ sb.out).mono ?_; rintro e w2 ⟨rfl, d⟩; have B2 := asd (below_post d.below B1.out); clear d))
    go_ret
    exact ⟨rfl, B2.out⟩
section
variable (a b : Nat) (w : World)
theorem add_nan (h : nanB a = true ∨ nanB b = true) : Calls Tryz.prog 84 #[.float .f64 a, .float .f64 b, .int .i64 2] w fun e w' => e = .returned (.float .f64 9221120237041090561) ∧ Below w.heap.size w w' := by
  have HV := asd (round_yes (m := 2) (by omega))
  have tok1 : True := trivial
  rcases hx : nanB a with _ | _
  · have hb : (FloatKind.f64.format.order b b != some .eq) = true := h.resolve_left (by rw [hx]; simp)
    have ha : (FloatKind.f64.format.order a a != some .eq) = false := hx
    clear h hx
    go_enter Tryz.func84, Tryz.ntmps84
    go_wp2_with (first
      | (go_at_call 49; refine (round_Valid.calls 2 0 _ HV.out).mono ?_; rintro e w1 ⟨rfl, d⟩; have B1 := asd d.below; clear d)
      | (go_at_call 113; refine (math_NaN.calls _ _ rfl).mono ?_; rintro e w2 ⟨rfl, d⟩; have B2 := asd (below_post d.below B1.out); clear d))
    go_ret
    exact ⟨rfl, B2.out⟩
  · have ha : (FloatKind.f64.format.order a a != some .eq) = true := hx
    clear h hx
    go_enter Tryz.func84, Tryz.ntmps84
    go_wp2_with (first
      | (go_at_call 49; refine (round_Valid.calls 2 0 _ HV.out).mono ?_; rintro e w1 ⟨rfl, d⟩; have B1 := asd d.below; clear d)
      | (go_at_call 113; refine (math_NaN.calls _ _ rfl).mono ?_; rintro e w2 ⟨rfl, d⟩; have B2 := asd (below_post d.below B1.out); clear d))
    go_ret
    exact ⟨rfl, B2.out⟩
theorem infinite_any (x : Nat) : round_infinite.f x = some (infB? x) := by
  unfold round_infinite.f
  rw [inf_some x]; rfl
theorem add_infs (h1 : nanB a = false) (h2 : nanB b = false) (h : infB? a = true ∨ infB? b = true) (v : Nat) (hv : floatBits .add .f64 a b = some v) :
    Calls Tryz.prog 84 #[.float .f64 a, .float .f64 b, .int .i64 2] w fun e w' => e = .returned (.float .f64 v) ∧ Below w.heap.size w w' := by
  have HV := asd (round_yes (m := 2) (by omega))
  have ha : (FloatKind.f64.format.order a a != some .eq) = false := h1
  have hb : (FloatKind.f64.format.order b b != some .eq) = false := h2
  have hrun := fun (w : World) => run_float_arith (P := Tryz.prog) w .add 25 .f64 a b v hv
  have IA := asd (infinite_any a)
  have IB := asd (infinite_any b)
  have tok1 : True := trivial
  rcases hx : infB? a with _ | _
  · have hy := h.resolve_left (by rw [hx]; simp)
    rw [hx] at IA
    rw [hy] at IB
    clear h h1 h2 hx hy hv
    go_enter Tryz.func84, Tryz.ntmps84
    go_wp2_with (first
      | (go_at_call 49; refine (round_Valid.calls 2 0 _ HV.out).mono ?_; rintro e w1 ⟨rfl, d⟩; have B1 := asd d.below; clear d)
      | (go_at_call 114; have _t := tok1; refine (round_infinite.calls a _ _ IA.out).mono ?_; rintro e w2 ⟨rfl, d⟩; have B2 := asd (below_post d.below B1.out); clear d _t tok1)
      | (go_at_call 114; refine (round_infinite.calls b _ _ IB.out).mono ?_; rintro e w3 ⟨rfl, d⟩; have B3 := asd (below_post d.below B2.out); clear d))
    go_ret
    exact ⟨rfl, B3.out⟩
  · rw [hx] at IA
    clear h h1 h2 hx hv
    go_enter Tryz.func84, Tryz.ntmps84
    go_wp2_with (first
      | (go_at_call 49; refine (round_Valid.calls 2 0 _ HV.out).mono ?_; rintro e w1 ⟨rfl, d⟩; have B1 := asd d.below; clear d)
      | (go_at_call 114; refine (round_infinite.calls a _ _ IA.out).mono ?_; rintro e w2 ⟨rfl, d⟩; have B2 := asd (below_post d.below B1.out); clear d))
    go_ret
    exact ⟨rfl, B2.out⟩
theorem add_opp (h : (a = 9218868437227405312 ∧ b = 18442240474082181120) ∨ (a = 18442240474082181120 ∧ b = 9218868437227405312)) :
    Calls Tryz.prog 84 #[.float .f64 a, .float .f64 b, .int .i64 2] w fun e w' => ∃ r, nanB r = true ∧ r < 18446744073709551616 ∧ e = .returned (.float .f64 r) ∧ Below w.heap.size w w' := by
  have ha : (FloatKind.f64.format.order a a != some .eq) = false := by rcases h with ⟨rfl, rfl⟩ | ⟨rfl, rfl⟩ <;> decide +kernel
  have hb : (FloatKind.f64.format.order b b != some .eq) = false := by rcases h with ⟨rfl, rfl⟩ | ⟨rfl, rfl⟩ <;> decide +kernel
  have hi : round_infinite.f a = some true := by rcases h with ⟨rfl, rfl⟩ | ⟨rfl, rfl⟩ <;> decide +kernel
  have hn : floatBits .add .f64 a b = none := by rcases h with ⟨rfl, rfl⟩ | ⟨rfl, rfl⟩ <;> decide +kernel
  have hrun := fun (w : World) => run_nan (P := Tryz.prog) a b 25 w hn
  have HI := asd hi
  have HV := asd (round_yes (m := 2) (by omega))
  clear hi hn h
  go_enter Tryz.func84, Tryz.ntmps84
  go_wp2_with (first
    | (go_at_call 49; refine (round_Valid.calls 2 0 _ HV.out).mono ?_; rintro e w1 ⟨rfl, d⟩; have B1 := asd d.below; clear d)
    | (go_at_call 114; refine (round_infinite.calls a true _ HI.out).mono ?_; rintro e w2 ⟨rfl, d⟩; have B2 := asd (below_post d.below B1.out); clear d))
  go_ret
  exact ⟨_, (nanR_nan _ _ _).1, (nanR_nan _ _ _).2, rfl, B2.out.drew⟩
theorem add_fin (fa : Fin64 a) (fb : Fin64 b) (hL : Laid w) :
    Calls Tryz.prog 84 #[.float .f64 a, .float .f64 b, .int .i64 2] w fun e w' => e = .returned (.float .f64 (if flz a + flz b = 0 then (if sgn a = true ∧ sgn b = true then 9223372036854775808 else 0) else rndZ (flz a + flz b) 2)) ∧ Below w.heap.size w w' := by
  have b1 : bl (flz a).natAbs ≤ 2098 := bl_le.2 (flz_lt fa)
  have b2 : bl (flz b).natAbs ≤ 2098 := bl_le.2 (flz_lt fb)
  have b3 := sum_bl fa fb
  have HV := asd (round_yes (m := 2) (by omega))
  have ha : (FloatKind.f64.format.order a a != some .eq) = false := nan_fin fa
  have hb : (FloatKind.f64.format.order b b != some .eq) = false := nan_fin fb
  have IA := asd (inf_fin fa)
  have IB := asd (inf_fin fb)
  have FA := asd fa
  have FB := asd fb
  have HL := asd hL
  have ADD := asd (dadd_law (x := flz a) (y := flz b) (by omega) (by omega))
  have SGN := asd (sign_can (z := flz a + flz b) (by omega))
  have RND := asd (round_can (z := flz a + flz b) (mode := 2) (by omega) (by omega))
  obtain ⟨SG, hSG⟩ : ∃ s, (if flz a + flz b = 0 then (0 : Int) else if flz a + flz b < 0 then -1 else 1) = s := ⟨_, rfl⟩
  rw [hSG] at SGN
  have ZZ := asd (show SG = 0 ↔ flz a + flz b = 0 by
    rw [← hSG]; constructor
    · intro h; split at h
      · assumption
      · split at h <;> omega
    · intro h; rw [if_pos h])
  obtain ⟨⟨n, m, ex⟩, hs⟩ : ∃ r, canN (flz a + flz b) (-1074) = r := ⟨_, rfl⟩
  rw [hs] at ADD SGN RND
  simp only at ADD SGN RND
  have tok1 : True := trivial
  clear fa fb hL b1 b2 b3 hSG hs
  by_cases hz : flz a + flz b = 0
  · rw [if_pos hz]
    obtain ⟨v, hv⟩ : ∃ v, (if sgn a = true ∧ sgn b = true then 9223372036854775808 else 0) = v := ⟨_, rfl⟩
    rw [hv]
    have HVV := asd hv
    clear hv
    have HZ := asd hz
    have s0 : (SG == 0) = true := by rw [ZZ.out.2 hz]; rfl
    clear hz
    go_enter Tryz.func84, Tryz.ntmps84
    go_wp2_with (first
      | (go_at_call 49; refine (round_Valid.calls 2 0 _ HV.out).mono ?_; rintro e w1 ⟨rfl, d⟩; have B1 := asd d.below; clear d)
      | (go_at_call 114; have _t := tok1; refine (round_infinite.calls a _ _ IA.out).mono ?_; rintro e w2 ⟨rfl, d⟩; have B2 := asd (below_post d.below B1.out); have tok2 : True := trivial; clear d _t tok1)
      | (go_at_call 114; refine (round_infinite.calls b _ _ IB.out).mono ?_; rintro e w3 ⟨rfl, d⟩; have B3 := asd (below_post d.below B2.out); clear d)
      | (go_at_call 115; have _t := tok2; refine (rnum_fin a _ FA.out (HL.out.step B3.out)).mono ?_; rintro e w4 ⟨v4, rfl, r4, d⟩; obtain ⟨A4, c4, hv4⟩ := Kd.R_slice r4; subst hv4; have R4 := asd (Kd.R_reads' r4); have B4 := asd (below_post d B3.out); clear d r4 _t tok2)
      | (go_at_call 115; refine (rnum_fin b _ FB.out (HL.out.step B4.out)).mono ?_; rintro e w5 ⟨v5, rfl, r5, d⟩; obtain ⟨A5, c5, hv5⟩ := Kd.R_slice r5; subst hv5; have R5 := asd (Kd.R_reads' r5); have C4 := asd (Kd.C_below R4.out.2.2 d); have B5 := asd (below_post d B4.out); clear d r5)
      | (go_at_call 79; refine (dyad_Add.calls _ A4 c4 _ _ _ A5 c5 _ _ n m ex 0 _ C4.out R4.out.2.1 R5.out.2.2 R5.out.2.1 ADD.out (HL.out.step B5.out)).mono ?_; rintro e w6 ⟨v6, rfl, r6, d⟩; obtain ⟨A6, c6, hv6⟩ := Kd.R_slice r6; subst hv6; have R6 := asd (Kd.R_reads' r6); have B6 := asd (below_post d B5.out); clear d r6)
      | (go_at_call 51; refine (dyad_Sign.calls 1 n A6 c6 m ex SG _ (Kd.C_below R6.out.2.2 (by exact (Below.refl _ _).alloc (Nat.le_refl _) _)) R6.out.2.1 SGN.out).mono ?_; rintro e w7 ⟨rfl, d⟩; have B7 := asd (below_post d (by exact B6.out.alloc B6.out.size _)); clear d)
      | (go_at_call 116; refine (nought_fin a b _ FA.out FB.out HZ.out).mono ?_; rw [HVV.out]; rintro e w8 ⟨rfl, d⟩; have B8 := asd (below_post d B7.out); clear d))
    go_ret
    exact ⟨rfl, B8.out⟩
  · rw [if_neg hz]
    have s0 : (SG == 0) = false := by rw [beq_eq_false_iff_ne]; exact fun h => hz (ZZ.out.1 h)
    clear hz
    go_enter Tryz.func84, Tryz.ntmps84
    go_wp2_with (first
      | (go_at_call 49; refine (round_Valid.calls 2 0 _ HV.out).mono ?_; rintro e w1 ⟨rfl, d⟩; have B1 := asd d.below; clear d)
      | (go_at_call 114; have _t := tok1; refine (round_infinite.calls a _ _ IA.out).mono ?_; rintro e w2 ⟨rfl, d⟩; have B2 := asd (below_post d.below B1.out); have tok2 : True := trivial; clear d _t tok1)
      | (go_at_call 114; refine (round_infinite.calls b _ _ IB.out).mono ?_; rintro e w3 ⟨rfl, d⟩; have B3 := asd (below_post d.below B2.out); clear d)
      | (go_at_call 115; have _t := tok2; refine (rnum_fin a _ FA.out (HL.out.step B3.out)).mono ?_; rintro e w4 ⟨v4, rfl, r4, d⟩; obtain ⟨A4, c4, hv4⟩ := Kd.R_slice r4; subst hv4; have R4 := asd (Kd.R_reads' r4); have B4 := asd (below_post d B3.out); clear d r4 _t tok2)
      | (go_at_call 115; refine (rnum_fin b _ FB.out (HL.out.step B4.out)).mono ?_; rintro e w5 ⟨v5, rfl, r5, d⟩; obtain ⟨A5, c5, hv5⟩ := Kd.R_slice r5; subst hv5; have R5 := asd (Kd.R_reads' r5); have C4 := asd (Kd.C_below R4.out.2.2 d); have B5 := asd (below_post d B4.out); clear d r5)
      | (go_at_call 79; refine (dyad_Add.calls _ A4 c4 _ _ _ A5 c5 _ _ n m ex 0 _ C4.out R4.out.2.1 R5.out.2.2 R5.out.2.1 ADD.out (HL.out.step B5.out)).mono ?_; rintro e w6 ⟨v6, rfl, r6, d⟩; obtain ⟨A6, c6, hv6⟩ := Kd.R_slice r6; subst hv6; have R6 := asd (Kd.R_reads' r6); have N6 := asd (show NumB (w6.alloc (.cells #[.bool n, .slice A6 m.length c6, .int .i64 ex] 60 (0, 0))) w6.heap.size n (.slice A6 m.length c6) ex from blk_new _ _); have B6 := asd (below_post d B5.out); clear d r6)
      | (go_at_call 51; refine (dyad_Sign.calls 1 n A6 c6 m ex SG _ (Kd.C_below R6.out.2.2 (by exact (Below.refl _ _).alloc (Nat.le_refl _) _)) R6.out.2.1 SGN.out).mono ?_; rintro e w7 ⟨rfl, d⟩; have B7 := asd (below_post d (by exact B6.out.alloc B6.out.size _)); have C7 := asd (Kd.C_below (Kd.C_below R6.out.2.2 ((Below.refl _ _).alloc (Nat.le_refl _) _)) d); have N7 := asd (N6.out.below d); have q0 := N7.out.c0; have q1 := N7.out.c1; have q2 := N7.out.c2; clear d)
      | (go_at_call 117; refine (round_to.calls n A6 c6 m ex 2 (rndZ (flz a + flz b) 2) _ C7.out R6.out.2.1 (by unfold round_to.f; rw [RND.out]; rfl)).mono ?_; rintro e w8 ⟨rfl, d⟩; have B8 := asd (below_post d B7.out); clear d))
    go_ret
    exact ⟨rfl, B8.out⟩
theorem near_rel (ha : a < 18446744073709551616) (hb : b < 18446744073709551616) (hL : Laid w) : Calls Tryz.prog 39 #[.float .f64 a, .float .f64 b] w (RetRel (sumT a b) w) := by
  have key : Calls Tryz.prog 84 #[.float .f64 a, .float .f64 b, .int .i64 2] w (RetRel (sumT a b) w) := by
    unfold sumT
    by_cases ho : opp a b
    · rw [if_pos ho]
      exact (add_opp a b w (opp_cases ha hb ho)).mono fun e w' ⟨r, h1, h2, h3, h4⟩ => ⟨r, .inr ⟨h1, by decide +kernel⟩, h2, h3, h4⟩
    · rw [if_neg ho]
      unfold sumV
      by_cases hn : nanB a = true ∨ nanB b = true
      · rw [if_pos hn]
        exact (add_nan a b w hn).mono fun e w' ⟨h3, h4⟩ => ⟨_, .inl rfl, by omega, h3, h4⟩
      · have n1 : nanB a = false := by cases h : nanB a; rfl; exact absurd (.inl h) hn
        have n2 : nanB b = false := by cases h : nanB b; rfl; exact absurd (.inr h) hn
        rw [if_neg hn]
        by_cases hi : infB? a = true ∨ infB? b = true
        · have hv := add_inf ha hb hi n1 n2 ho
          refine (add_infs a b w n1 n2 hi _ hv).mono fun e w' ⟨h3, h4⟩ => ⟨_, .inl ?_, ?_, h3, h4⟩
          · by_cases ia : infB? a = true
            · rw [if_pos ia, if_pos ia]
            · rw [if_neg ia, if_neg ia, if_pos (hi.resolve_left ia)]
          · split <;> assumption
        · have i1 : infB? a = false := by cases h : infB? a; rfl; exact absurd (.inl h) hi
          have i2 : infB? b = false := by cases h : infB? b; rfl; exact absurd (.inr h) hi
          rw [i1, i2, if_neg (by simp), if_neg (by simp)]
          refine (add_fin a b w (fin_kind ha n1 i1) (fin_kind hb n2 i2) hL).mono fun e w' ⟨h3, h4⟩ => ⟨_, .inl rfl, ?_, h3, h4⟩
          split
          · split <;> omega
          · exact rnd_lt _ _
  have K := asd key
  clear key ha hb hL
  go_enter Tryz.func39, Tryz.ntmps39
  go_wp2_with (go_at_call 84; refine (K.out).mono ?_; rintro e w1 ⟨r, n1, n2, rfl, d⟩; have N1 := asd (And.intro n1 (And.intro n2 d)); clear n1 n2 d)
  go_ret
  exact ⟨_, N1.out.1, N1.out.2.1, rfl, N1.out.2.2⟩
end
end Go.Proofs.YthmeocigliephaaGreatDoor.Big
end
section
namespace Go.Proofs.YthmeocigliephaaGreatDoor.Big
open Go.Proofs.YthmeocigliephaaGreatDoor.PSu Go.Proofs.YthmeocigliephaaGreatDoor.Plain
def rowT : List Nat → Nat
  | [] => 0
  | a :: l => l.foldl sumT a
theorem rd_lt {l : List Nat} (hw : ∀ b ∈ l, b < 18446744073709551616) (i : Int) : rdOf (0 : Nat) l i < 18446744073709551616 := by
  unfold rdOf
  by_cases h : i.toNat < l.length
  · rw [List.getD_eq_getElem?_getD, List.getElem?_eq_getElem h]
    exact hw _ (List.getElem_mem h)
  · rw [List.getD_eq_getElem?_getD, List.getElem?_eq_none (by omega)]; simp
theorem relN_self (a : Nat) : relN a a := .inl rfl
theorem row_rel (A : Option Addr) (c : Nat) (l : List Nat) (w : World) (hr : Kd.C Kd.float w A l.length l) (hc : l.length ≤ c) (hn : l.length < 4611686018427387904) (hw : ∀ b ∈ l, b < 18446744073709551616) (hL : Laid w) :
    Calls Tryz.prog 12 #[.slice A l.length c] w (RetRel (rowT l) w) := by
  have HL := asd hL
  have HB := asd (Below.refl w.heap.size w)
  by_cases c2 : (l.length : Int) = 0
  · have c2b0 : ((l.length : Int) == 0) = true := beq_iff_eq.mpr c2
    obtain rfl : l = [] := List.length_eq_zero_iff.1 (by omega)
    clear c2 hL hn hw hr hc
    go_enter Tryz.func12, Tryz.ntmps12
    go_wp2
    go_ret
    exact ⟨0, .inl rfl, by omega, rfl, HB.out⟩
  · have c2b0 : ((l.length : Int) == 0) = false := beq_eq_false_iff_ne.mpr c2
    obtain ⟨T, hT⟩ : ∃ T, rowT l = T := ⟨_, rfl⟩
    rw [hT]
    have HT := asd (show (l.drop (1 + 0)).foldl sumT (rdOf (0 : Nat) l 0) = T by
      cases l with
      | nil => exact absurd rfl c2
      | cons a l => exact hT)
    have HW := asd hw
    have p157 : 0 ≤ (0 : Int) := by omega
    have q157 : 0 < (l.length : Int) := by omega
    obtain ⟨ad157, e157, hx157_0⟩ := Kd.at_float hr 0 p157 q157
    cases e157
    rw [show ((0 : Int)).toNat = 0 from rfl, Addr.add_zero'] at hx157_0
    obtain ⟨i05, hi05, _, hsz5, _⟩ := info_parts info25
    obtain ⟨A5, hcut5, hA5, hC5⟩ := print_drop_of (P := Tryz.prog) (Value.float .f64) (0 : Nat) 22 25 .i64 Tryz.underlying22 hi05 hsz5 (some ad157) c l 1 (by omega) (by omega) hc
    have HR := asd (show Kd.C Kd.float w A5 (l.drop 1).length (l.drop 1) from Kd.C_of_reads (h1 := fun _ => rfl) (hA5 _ (Kd.reads_of_C hr)))
    have HN := asd (show (l.drop 1).length < 4611686018427387904 by rw [List.length_drop]; omega)
    have H1 := asd (show 1 ≤ l.length by omega)
    have q1 : (1 : Int) ≤ (l.length : Int) := by omega
    have qi157 : (0 < l.length) = True := eq_true (by omega)
    replace p157 := eq_true p157
    replace q157 := eq_true q157
    replace q1 := eq_true q1
    clear hA5 hC5 hi05 hsz5 hL hr hc hn hw hT
    go_enter Tryz.func12, Tryz.ntmps12
    go_wp2
    go_loopg [3, 15] (l.drop 1).length (fun kq v3 v15 w' => ∃ (s t i : Nat), v3 = .float .f64 s ∧ v15 = .int .i64 (i : Int) ∧ Aside0 (relN s t ∧ s < 18446744073709551616 ∧ t < 18446744073709551616) ∧ Aside0 ((l.drop (1 + i)).foldl sumT t = T) ∧ Aside0 (kq + i = (l.drop 1).length) ∧ Aside0 (Below w.heap.size w w'))
    case atStart => exact ⟨rdOf (0 : Nat) l 0, rdOf (0 : Nat) l 0, 0, rfl, rfl, ⟨.inl rfl, rd_lt HW.out 0, rd_lt HW.out 0⟩, HT, ⟨by omega⟩, HB⟩
    case round =>
      clear HT HB p157 q157 q1 hx157_0 qi157 c2 c2b0
      obtain ⟨s, t, i, rfl, rfl, HS, HT, HK, HB⟩ := hrel
      have hi0 : (0 : Int) ≤ (i : Int) := by omega
      have hdl : (l.drop 1).length = l.length - 1 := List.length_drop
      cases gk with
      | zero =>
        have c1 : decide ((i : Int) < ((l.length - 1 : Nat) : Int)) = false := by have := HK.out; simp; omega
        have c1' : decide ((i : Int) < ((l.drop 1).length : Int)) = false := by have := HK.out; simp; omega
        have c1n : decide (i < l.length - 1) = false := by have := HK.out; simp; omega
        have hT := HT.out
        rw [List.drop_eq_nil_of_le (by have := HK.out; omega)] at hT
        obtain rfl : t = T := hT
        clear hdl
        go_wp2
        go_ret
        exact ⟨s, HS.out.1, HS.out.2.1, rfl, HB.out⟩
      | succ k1 =>
        have hi : i < (l.drop 1).length := by have := HK.out; omega
        have p1 : 0 ≤ (i : Int) := hi0
        have q1 : (i : Int) < ((l.drop 1).length : Int) := by omega
        have c1 : decide ((i : Int) < ((l.length - 1 : Nat) : Int)) = true := by simp; omega
        have c1' : decide ((i : Int) < ((l.drop 1).length : Int)) = true := by simp; omega
        have c1n : decide (i < l.length - 1) = true := by simp; omega
        obtain ⟨ad, e159, hx⟩ := Kd.at_float HR.out (i : Int) p1 q1
        cases e159
        replace hx := (HB.out.cell (World.block_lt_of_cell? w _ hx)).trans hx
        rw [Int.toNat_natCast] at hx
        have hT := HT.out
        have hd : l.drop (1 + i) = rdOf (0 : Nat) (l.drop 1) (i : Int) :: l.drop (1 + (i + 1)) := by
          rw [← List.drop_drop, drop_rd _ i hi, List.drop_drop]
        rw [hd, List.foldl_cons] at hT
        have HX := asd (rd_lt (fun b hb => HW.out b (List.mem_of_mem_drop hb)) (i : Int) : rdOf (0 : Nat) (l.drop 1) (i : Int) < 18446744073709551616)
        obtain ⟨x, hx0⟩ : ∃ x, rdOf (0 : Nat) (l.drop 1) (i : Int) = x := ⟨_, rfl⟩
        rw [hx0] at hx hT HX
        have HT2 := asd hT
        have HI := asd hi
        have q1x : ((i : Int) < ((l.length - 1 : Nat) : Int)) = True := eq_true (by omega)
        replace p1 := eq_true p1
        replace q1 := eq_true q1
        clear hT hd hx0 hdl hi HT
        go_wp2_with (go_at_call 39; refine (near_rel s x _ HS.out.2.1 HX.out (HL.out.step HB.out)).mono ?_; rintro e w1 ⟨r, n1, n2, rfl, d⟩; have N1 := asd (And.intro n1 n2); have HB2 := asd (below_post d HB.out); clear n1 n2 d)
        go_roundg k1
        case measure => omega
        case rel => exact ⟨r, sumT t x, i + 1, rfl, by congr 1; have := HI.out; have := HN.out; exact (w64_of (by omega) (by omega)).trans (by omega), ⟨relN_trans N1.out.1 (relN_sum HS.out.2.1 HX.out HS.out.2.2 HX.out HS.out.1 (relN_self x)), N1.out.2, sumT_lt HS.out.2.2 HX.out⟩, HT2, ⟨by have := HK.out; omega⟩, HB2⟩
end Go.Proofs.YthmeocigliephaaGreatDoor.Big
end
section
namespace Go.Proofs.YthmeocigliephaaGreatDoor.Big
open Go.Proofs.YthmeocigliephaaGreatDoor.PSu Go.Proofs.YthmeocigliephaaGreatDoor.Plain Ieee
attribute [local go_sem] neg_float
def absN (b : Nat) : Nat := (Go.bits .andNot .u64 ((b : Nat) : Int) 9223372036854775808 : Int).toNat
theorem abs_some (b : Nat) : math_Abs.f b = some (absN b) := rfl
def geN (a b : Nat) : Bool := (FloatKind.f64.format.order (absN a) (absN b)) == some .gt || (FloatKind.f64.format.order (absN a) (absN b)) == some .eq
def negN (b : Nat) : Nat := Op.negFloat .f64 b
theorem negN_law {b : Nat} (hb : b < 18446744073709551616) : negN b < 18446744073709551616 ∧ negN b % 9223372036854775808 = b % 9223372036854775808 := by
  have h : negN b = b ^^^ 2 ^ 63 := rfl
  rw [h]
  refine ⟨Nat.xor_lt_two_pow (n := 64) hb (by decide), ?_⟩
  have : (b ^^^ 2 ^ 63) % 2 ^ 63 = b % 2 ^ 63 := by
    rw [Nat.xor_mod_two_pow, Nat.mod_self, Nat.xor_zero]
  exact this
theorem negN_lt {b : Nat} (hb : b < 18446744073709551616) : negN b < 18446744073709551616 := (negN_law hb).1
theorem negN_nan {b : Nat} (hb : b < 18446744073709551616) : nanB (negN b) = nanB b := by
  rw [nan_law (negN_lt hb), nan_law hb, (negN_law hb).2]
theorem relN_neg {a b : Nat} (ha : a < 18446744073709551616) (hb : b < 18446744073709551616) (h : relN a b) : relN (negN a) (negN b) := by
  rcases h with rfl | ⟨h1, h2⟩
  · exact .inl rfl
  · exact .inr ⟨by rw [negN_nan ha, h1], by rw [negN_nan hb, h2]⟩
theorem absN_law {b : Nat} (hb : b < 18446744073709551616) : absN b = b % 9223372036854775808 := by
  unfold absN
  rw [bits_abs b hb, Int.toNat_natCast]
theorem geN_nan {a : Nat} (ha : a < 18446744073709551616) (b : Nat) (h : nanB a = true) : geN a b = false := by
  rw [nan_law ha, decide_eq_true_eq] at h
  have : FloatKind.f64.format.order (absN a) (absN b) = none := by
    show double.order _ _ = _
    rw [absN_law ha]
    obtain ⟨s, f, hr⟩ := read_nan (b := a % 9223372036854775808) (by omega)
    unfold Format.order
    rw [hr]; rfl
  unfold geN
  rw [this]; rfl
theorem relN_ge {a b : Nat} (ha : a < 18446744073709551616) (hb : b < 18446744073709551616) (x : Nat) (h : relN a b) : geN a x = geN b x := by
  rcases h with rfl | ⟨h1, h2⟩
  · rfl
  · rw [geN_nan ha x h1, geN_nan hb x h2]
def lossT (s x t : Nat) : Nat := if geN s x = true then sumT (sumT s (negN t)) x else sumT (sumT x (negN t)) s
def keptT : List Nat → Nat → Nat → Nat
  | [], s, c => sumT s c
  | x :: l, s, c => keptT l (sumT s x) (sumT c (lossT s x (sumT s x)))
theorem lossT_lt {s x t : Nat} (hs : s < 18446744073709551616) (hx : x < 18446744073709551616) (ht : t < 18446744073709551616) : lossT s x t < 18446744073709551616 := by
  unfold lossT
  split
  · exact sumT_lt (sumT_lt hs (negN_lt ht)) hx
  · exact sumT_lt (sumT_lt hx (negN_lt ht)) hs
theorem kept_rel (A : Option Addr) (c : Nat) (l : List Nat) (w : World) (hr : Kd.C Kd.float w A l.length l) (hc : l.length ≤ c) (hn : l.length < 4611686018427387904) (hw : ∀ b ∈ l, b < 18446744073709551616) (hL : Laid w) :
    Calls Tryz.prog 16 #[.slice A l.length c] w (RetRel (keptT l 0 0) w) := by
  have HL := asd hL
  have HB := asd (Below.refl w.heap.size w)
  have HW := asd hw
  have HR := asd hr
  have HN := asd hn
  obtain ⟨T, hT⟩ : ∃ T, keptT l 0 0 = T := ⟨_, rfl⟩
  rw [hT]
  have HT := asd (show keptT (l.drop 0) 0 0 = T from hT)
  clear hL hr hc hn hw hT
  go_enter Tryz.func16, Tryz.ntmps16
  go_wp2
  go_loopg [3, 4, 10] l.length (fun kq v3 v4 v10 w' => ∃ (s s' c c' i : Nat), v3 = .float .f64 s ∧ v4 = .float .f64 c ∧ v10 = .int .i64 (i : Int) ∧ Aside0 (relN s s' ∧ s < 18446744073709551616 ∧ s' < 18446744073709551616) ∧ Aside0 (relN c c' ∧ c < 18446744073709551616 ∧ c' < 18446744073709551616) ∧ Aside0 (keptT (l.drop i) s' c' = T) ∧ Aside0 (kq + i = l.length) ∧ Aside0 (Below w.heap.size w w'))
  case atStart => exact ⟨0, 0, 0, 0, 0, rfl, rfl, rfl, ⟨.inl rfl, by omega, by omega⟩, ⟨.inl rfl, by omega, by omega⟩, HT, ⟨by omega⟩, HB⟩
  case round =>
    clear HT HB
    obtain ⟨s, s', c, c', i, rfl, rfl, rfl, HS, HC, HT, HK, HB⟩ := hrel
    have hi0 : (0 : Int) ≤ (i : Int) := by omega
    cases gk with
    | zero =>
      have c1 : decide ((i : Int) < (l.length : Int)) = false := by have := HK.out; simp; omega
      have c1n : decide (i < l.length) = false := by have := HK.out; simp; omega
      have hT := HT.out
      rw [List.drop_eq_nil_of_le (by have := HK.out; omega)] at hT
      have HT2 := asd (show sumT s' c' = T from hT)
      clear hT HT
      go_wp2_with (go_at_call 39; refine (near_rel s c _ HS.out.2.1 HC.out.2.1 (HL.out.step HB.out)).mono ?_; rintro e w1 ⟨r, n1, n2, rfl, d⟩; have N1 := asd (And.intro n1 n2); have HB2 := asd (below_post d HB.out); clear n1 n2 d)
      go_ret
      exact ⟨r, by rw [← HT2.out]; exact relN_trans N1.out.1 (relN_sum HS.out.2.1 HC.out.2.1 HS.out.2.2 HC.out.2.2 HS.out.1 HC.out.1), N1.out.2, rfl, HB2.out⟩
    | succ k1 =>
      have hi : i < l.length := by have := HK.out; omega
      have p1 : 0 ≤ (i : Int) := hi0
      have q1 : (i : Int) < (l.length : Int) := by omega
      have c1 : decide ((i : Int) < (l.length : Int)) = true := by simp; omega
      have c1n : decide (i < l.length) = true := by simp; omega
      obtain ⟨ad, e159, hx⟩ := Kd.at_float HR.out (i : Int) p1 q1
      cases e159
      replace hx := (HB.out.cell (World.block_lt_of_cell? w _ hx)).trans hx
      rw [Int.toNat_natCast] at hx
      have hT := HT.out
      rw [drop_rd _ i hi] at hT
      have HX := asd (rd_lt HW.out (i : Int))
      obtain ⟨x, hx0⟩ : ∃ x, rdOf (0 : Nat) l (i : Int) = x := ⟨_, rfl⟩
      rw [hx0] at hx hT HX
      have HT2 := asd (show keptT (l.drop (i + 1)) (sumT s' x) (sumT c' (lossT s' x (sumT s' x))) = T from hT)
      have HI := asd hi
      replace p1 := eq_true p1
      replace q1 := eq_true q1
      have A1 := asd (abs_some s)
      have A2 := asd (abs_some x)
      have tok1 : True := trivial
      clear hT hx0 hi HT
      have hg := relN_ge HS.out.2.1 HS.out.2.2 x HS.out.1
      have G := asd hg
      clear hg
      rcases hq : geN s x with _ | _
      · have hge : ((FloatKind.f64.format.order (absN s) (absN x)) == some .gt || (FloatKind.f64.format.order (absN s) (absN x)) == some .eq) = false := hq
        have G2 := asd (G.out.symm.trans hq)
        clear hq
        go_wp2_with (first
          | (go_at_call 39; have _t := tok1; refine (near_rel s x _ HS.out.2.1 HX.out (HL.out.step HB.out)).mono ?_; rintro e w1 ⟨t, n1, n2, rfl, d⟩; have N1 := asd (And.intro n1 n2); have HB2 := asd (below_post d HB.out); have tok2 : True := trivial; clear n1 n2 d _t tok1)
          | (go_at_call 41; have _t := tok2; refine (math_Abs.calls s _ _ A1.out).mono ?_; rintro e w2 ⟨rfl, d⟩; have HB3 := asd (below_post d.below HB2.out); clear d _t tok2)
          | (go_at_call 41; refine (math_Abs.calls x _ _ A2.out).mono ?_; rintro e w3 ⟨rfl, d⟩; have HB4 := asd (below_post d.below HB3.out); have tok3 : True := trivial; clear d)
          | (go_at_call 39; have _t := tok3; refine (near_rel x (negN t) _ HX.out (negN_lt N1.out.2) (HL.out.step HB4.out)).mono ?_; rintro e w4 ⟨u, n1, n2, rfl, d⟩; have N2 := asd (And.intro n1 n2); have HB5 := asd (below_post d HB4.out); have tok4 : True := trivial; clear n1 n2 d _t tok3)
          | (go_at_call 39; have _t := tok4; refine (near_rel u s _ N2.out.2 HS.out.2.1 (HL.out.step HB5.out)).mono ?_; rintro e w5 ⟨v, n1, n2, rfl, d⟩; have N3 := asd (And.intro n1 n2); have HB6 := asd (below_post d HB5.out); clear n1 n2 d _t tok4)
          | (go_at_call 39; refine (near_rel c v _ HC.out.2.1 N3.out.2 (HL.out.step HB6.out)).mono ?_; rintro e w6 ⟨y, n1, n2, rfl, d⟩; have N4 := asd (And.intro n1 n2); have HB7 := asd (below_post d HB6.out); clear n1 n2 d))
        go_roundg k1
        case measure => omega
        case rel =>
          have t1 : relN t (sumT s' x) := relN_trans N1.out.1 (relN_sum HS.out.2.1 HX.out HS.out.2.2 HX.out HS.out.1 (relN_self x))
          have l1 := sumT_lt HS.out.2.2 HX.out
          have t2 : relN u (sumT x (negN (sumT s' x))) := relN_trans N2.out.1 (relN_sum HX.out (negN_lt N1.out.2) HX.out (negN_lt l1) (relN_self x) (relN_neg N1.out.2 l1 t1))
          have l2 := sumT_lt HX.out (negN_lt l1)
          have t3 : relN v (lossT s' x (sumT s' x)) := by
            unfold lossT
            rw [if_neg (by rw [G2.out]; simp)]
            exact relN_trans N3.out.1 (relN_sum N2.out.2 HS.out.2.1 l2 HS.out.2.2 t2 HS.out.1)
          have l3 := lossT_lt HS.out.2.2 HX.out l1
          exact ⟨t, sumT s' x, y, _, i + 1, rfl, rfl, by congr 1; have := HI.out; have := HN.out; exact (w64_of (by omega) (by omega)).trans (by omega), ⟨t1, N1.out.2, l1⟩, ⟨relN_trans N4.out.1 (relN_sum HC.out.2.1 N3.out.2 HC.out.2.2 l3 HC.out.1 t3), N4.out.2, sumT_lt HC.out.2.2 l3⟩, HT2, ⟨by have := HK.out; omega⟩, HB7⟩
      · have hge : ((FloatKind.f64.format.order (absN s) (absN x)) == some .gt || (FloatKind.f64.format.order (absN s) (absN x)) == some .eq) = true := hq
        have G2 := asd (G.out.symm.trans hq)
        clear hq
        go_wp2_with (first
          | (go_at_call 39; have _t := tok1; refine (near_rel s x _ HS.out.2.1 HX.out (HL.out.step HB.out)).mono ?_; rintro e w1 ⟨t, n1, n2, rfl, d⟩; have N1 := asd (And.intro n1 n2); have HB2 := asd (below_post d HB.out); have tok2 : True := trivial; clear n1 n2 d _t tok1)
          | (go_at_call 41; have _t := tok2; refine (math_Abs.calls s _ _ A1.out).mono ?_; rintro e w2 ⟨rfl, d⟩; have HB3 := asd (below_post d.below HB2.out); clear d _t tok2)
          | (go_at_call 41; refine (math_Abs.calls x _ _ A2.out).mono ?_; rintro e w3 ⟨rfl, d⟩; have HB4 := asd (below_post d.below HB3.out); have tok3 : True := trivial; clear d)
          | (go_at_call 39; have _t := tok3; refine (near_rel s (negN t) _ HS.out.2.1 (negN_lt N1.out.2) (HL.out.step HB4.out)).mono ?_; rintro e w4 ⟨u, n1, n2, rfl, d⟩; have N2 := asd (And.intro n1 n2); have HB5 := asd (below_post d HB4.out); have tok4 : True := trivial; clear n1 n2 d _t tok3)
          | (go_at_call 39; have _t := tok4; refine (near_rel u x _ N2.out.2 HX.out (HL.out.step HB5.out)).mono ?_; rintro e w5 ⟨v, n1, n2, rfl, d⟩; have N3 := asd (And.intro n1 n2); have HB6 := asd (below_post d HB5.out); clear n1 n2 d _t tok4)
          | (go_at_call 39; refine (near_rel c v _ HC.out.2.1 N3.out.2 (HL.out.step HB6.out)).mono ?_; rintro e w6 ⟨y, n1, n2, rfl, d⟩; have N4 := asd (And.intro n1 n2); have HB7 := asd (below_post d HB6.out); clear n1 n2 d))
        go_roundg k1
        case measure => omega
        case rel =>
          have t1 : relN t (sumT s' x) := relN_trans N1.out.1 (relN_sum HS.out.2.1 HX.out HS.out.2.2 HX.out HS.out.1 (relN_self x))
          have l1 := sumT_lt HS.out.2.2 HX.out
          have t2 : relN u (sumT s' (negN (sumT s' x))) := relN_trans N2.out.1 (relN_sum HS.out.2.1 (negN_lt N1.out.2) HS.out.2.2 (negN_lt l1) HS.out.1 (relN_neg N1.out.2 l1 t1))
          have l2 := sumT_lt HS.out.2.2 (negN_lt l1)
          have t3 : relN v (lossT s' x (sumT s' x)) := by
            unfold lossT
            rw [if_pos G2.out]
            exact relN_trans N3.out.1 (relN_sum N2.out.2 HX.out l2 HX.out t2 (relN_self x))
          have l3 := lossT_lt HS.out.2.2 HX.out l1
          exact ⟨t, sumT s' x, y, _, i + 1, rfl, rfl, by congr 1; have := HI.out; have := HN.out; exact (w64_of (by omega) (by omega)).trans (by omega), ⟨t1, N1.out.2, l1⟩, ⟨relN_trans N4.out.1 (relN_sum HC.out.2.1 N3.out.2 HC.out.2.2 l3 HC.out.1 t3), N4.out.2, sumT_lt HC.out.2.2 l3⟩, HT2, ⟨by have := HK.out; omega⟩, HB7⟩
end Go.Proofs.YthmeocigliephaaGreatDoor.Big
end
section
namespace Go.Proofs.YthmeocigliephaaGreatDoor.Big
open Go.Proofs.YthmeocigliephaaGreatDoor.PSu Go.Proofs.YthmeocigliephaaGreatDoor.Plain Ieee
theorem sumT_fin {a b : Nat} (ha : a < 18446744073709551616) (hb : b < 18446744073709551616) (h : Fin64 (sumT a b)) : Fin64 a ∧ Fin64 b ∧ sumT a b = sumV a b := by
  obtain ⟨h1, h2⟩ := kind_fin h
  unfold sumT at h1 h2 ⊢
  by_cases ho : opp a b
  · rw [if_pos ho] at h1; exact absurd h1 (by decide +kernel)
  · rw [if_neg ho] at h1 h2 ⊢
    unfold sumV at h1 h2
    by_cases hn : nanB a = true ∨ nanB b = true
    · rw [if_pos hn] at h1; exact absurd h1 (by decide +kernel)
    · have n1 : nanB a = false := by cases h : nanB a; rfl; exact absurd (.inl h) hn
      have n2 : nanB b = false := by cases h : nanB b; rfl; exact absurd (.inr h) hn
      rw [if_neg hn] at h2
      by_cases ia : infB? a = true
      · rw [if_pos ia, ia] at h2; cases h2
      · rw [if_neg ia] at h2
        by_cases ib : infB? b = true
        · rw [if_pos ib, ib] at h2; cases h2
        · exact ⟨fin_kind ha n1 (by simpa using ia), fin_kind hb n2 (by simpa using ib), rfl⟩
def lostT (a b : Nat) : Nat := if Fin64 (sumT a b) then rndZ (flz a + flz b - flz (sumT a b)) 2 else 0
theorem isinf_some (b : Nat) : math_IsInf.f b 0 = some (infB? b) := inf_some b
theorem two_rest {a b r : Nat} (ha : a < 18446744073709551616) (hb : b < 18446744073709551616) (h : relN r (sumT a b)) (hr : r < 18446744073709551616) :
    (if ((FloatKind.f64.format.order r r) != some .eq) = true then (sums_Two.j0 4 a b r true) else ((math_IsInf.f r 0).bind fun t231 => (sums_Two.j0 4 a b r t231))) = some (r, lostT a b) := by
  unfold lostT
  by_cases hf : Fin64 (sumT a b)
  · obtain ⟨fa, fb, hs⟩ := sumT_fin ha hb hf
    obtain rfl := relN_eq h (kind_fin hf).1
    rw [if_pos hf]
    have h1 := sum_bl fa fb
    have h2 : bl (flz (sumT a b)).natAbs ≤ 2098 := bl_le.2 (flz_lt hf)
    have ht := total_law [a, b] (fun x hx => by simp at hx; rcases hx with rfl | rfl <;> assumption) (by simp)
    have hz : sumZ [a, b] = flz a + flz b := by simp [sumZ]
    have hd : bl (flz a + flz b - flz (sumT a b)).natAbs ≤ 60000 := by
      have h3 := Int.natAbs_sub_le (flz a + flz b) (flz (sumT a b))
      have h4 := bl_add (k := 2100) h1 (by omega : bl (flz (sumT a b)).natAbs ≤ 2100)
      have := bl_le.2 (Nat.lt_of_le_of_lt h3 (bl_le.1 h4))
      omega
    rw [if_neg (by rw [nan_fin hf]; simp), isinf_some, (kind_fin hf).2, Option.bind_some, sums_Two.j0, if_neg (by simp), show (3 : Nat) = [a, b].length + 1 from rfl, ht, Option.bind_some, num_law hf, Option.bind_some, hz]
    rw [show [a, b].length + 1 = 0 + 3 from rfl, dsub_law 0 (by omega) (by omega), Option.bind_some]
    simp only
    rw [round_can hd (by omega)]
    rfl
  · rw [if_neg hf]
    by_cases hn : nanB r = true
    · refine (if_pos hn).trans ?_
      rw [sums_Two.j0, if_pos rfl]
    · refine (if_neg hn).trans ?_
      have he : r = sumT a b := by
        rcases h with h | ⟨h, _⟩
        · exact h
        · exact absurd h hn
      have hi : infB? r = true := by
        cases h : infB? r
        · exact absurd (he ▸ fin_kind hr (by simpa using hn) h) hf
        · rfl
      rw [isinf_some, hi, Option.bind_some, sums_Two.j0, if_pos rfl]
theorem two_rel (a0 a1 : Nat) (w : World) (ha : a0 < 18446744073709551616) (hb : a1 < 18446744073709551616) (hL : Laid w) :
    Calls Tryz.prog 20 #[.float .f64 a0, .float .f64 a1] w fun e w' => ∃ r, relN r (sumT a0 a1) ∧ r < 18446744073709551616 ∧ e = .returned (.tuple #[.float .f64 r, .float .f64 (lostT a0 a1)]) ∧ Below w.heap.size w w' := by
  have HL := asd hL
  obtain ⟨k, hk⟩ : ∃ k : Nat, k = 4 := ⟨_, rfl⟩
  have HC4 := asd (fun r h1 h2 => two_rest (r := r) ha hb h1 h2)
  rw [← hk] at HC4
  obtain ⟨L, hLL⟩ : ∃ L, lostT a0 a1 = L := ⟨_, rfl⟩
  rw [hLL] at HC4 ⊢
  have HA := asd ha
  have HA1 := asd hb
  clear hL hk hLL ha hb
  have hu60 := Tryz.underlying60
  have HB := asd (Below.refl w.heap.size w)
  go_enter Tryz.func20, Tryz.ntmps20
  go_upto_region 2 with (first | ((with_reducible refine gate_callee (f := 39) rfl ?_); refine goesL_ (some 13) rfl rfl Tryz.func39 (by kernel_rfl) rfl #[.float .f64 a0, .float .f64 a1] rfl eqA ?_; refine (near_rel a0 a1 _ HA.out HA1.out HL.out).mono ?_; rintro e w5 ⟨t230, n1, n2, rfl, hb⟩; refine ⟨_, rfl, ?_⟩; have N1 := asd (And.intro n1 n2); have HC5 := asd (HC4.out t230 n1 n2); clear n1 n2; replace HB := asd (below_step hbw hb); (try clear hb)))
  (try simp only [Act.put, List.setIfInBounds_toArray, List.set_cons_zero, List.set_cons_succ])
  go_cut [20] (fun v20 wc => ∃ (kq : Nat) (x20_3 : Bool), v20 = .bool x20_3 ∧ Aside0 (sums_Two.j0 kq a0 a1 t230 x20_3 = some (t230, L)) ∧ Aside0 (kq ≤ k) ∧ Aside0 (Below w.heap.size w wc))
  case first =>
    have H := HC5.out
    clear HC4 HC5
    by_cases c6 : ((FloatKind.f64.format.order t230 t230) != some .eq) = true
    · rw [if_pos c6] at H
      have c6b0 : ((FloatKind.f64.format.order t230 t230) != some .eq) = true := c6
      (try (have c6b1 : decide ((FloatKind.f64.format.order t230 t230) = some .eq) = false := by simpa using c6))
      (try (have c6b2 : ((FloatKind.f64.format.order t230 t230) == some .eq) = false := by simpa using c6))
      (try (have c6b3 : ¬ ((FloatKind.f64.format.order t230 t230) = some .eq) := by simpa using c6))
      clear c6
      (first | rw [c6b0] | (simp only [i64_w, i32_w]; rw [c6b0]) | skip)
      have H' := asd H
      clear H
      go_wp2
      go_meet
      case rel => exact ⟨_, (true), eqB, H', ⟨by first | omega | exact Nat.le_refl _⟩, ⟨hbw⟩⟩
    · rw [if_neg c6] at H
      have c6b0 : ((FloatKind.f64.format.order t230 t230) != some .eq) = false := by simpa using c6
      (try (have c6b1 : decide ((FloatKind.f64.format.order t230 t230) = some .eq) = true := by simpa using c6))
      (try (have c6b2 : ((FloatKind.f64.format.order t230 t230) == some .eq) = true := by simpa using c6))
      clear c6
      (first | rw [c6b0] | (simp only [i64_w, i32_w]; rw [c6b0]) | skip)
      replace H := Option.bind_eq_some_iff.mp H
      obtain ⟨t231, A70, H⟩ := H
      replace H : (sums_Two.j0 k a0 a1 t230 t231) = some (t230, L) := H
      have A7 := asd A70
      clear A70
      have H' := asd H
      clear H
      go_wp2_with (first | (go_at_call 43; (with_reducible refine (math_IsInf.calls t230 0 t231 _ A7.out).mono ?_); rintro e w' ⟨rfl, ⟨nd, rfl⟩⟩))
      go_meet
      case rel => exact ⟨_, (t231), eqB, H', ⟨by first | omega | exact Nat.le_refl _⟩, ⟨hbw⟩⟩
  case rest =>
    clear HC4 HC5 HA HA1
    try clear c2
    try clear p2
    try clear c3
    try clear c6
    try clear c6b0
    try clear c6b1
    try clear c6b2
    obtain ⟨kq, x20_3, rfl, HA, HJ3, HB⟩ := hcut
    cases kq with
    | zero => exact absurd HA.out (by simp [sums_Two.j0])
    | succ kj3 =>
      have H := HA.out
      clear HA
      simp only [sums_Two.j0] at H
      by_cases c8 : x20_3 = true
      · subst c8
        have H1 : (some (t230, (0 : Nat))) = some (t230, L) := by rw [if_pos rfl] at H; exact H
        clear H
        have H := H1
        clear H1
        simp only [Option.some.injEq, Prod.mk.injEq, true_and] at H
        subst H
        go_wp2
        go_ret2
        exact ⟨_, N1.out.1, N1.out.2, eqC, hbw⟩
      · replace c8 := Bool.eq_false_iff.mpr c8
        subst c8
        have H1 : ((sums_total.f kj3 (([a0, a1] : List Nat))).bind fun bt235 => ((sums_num.f t230).bind fun bt240 => ((dyad_Sub.f kj3 bt235.1 bt235.2.1 bt235.2.2 bt240.1 bt240.2.1 bt240.2.2).bind fun bt245 => ((dyad_Round.f bt245.1 bt245.2.1 bt245.2.2.1 2).bind fun bt252 => (some (t230, bt252.1)))))) = some (t230, L) := by rw [if_neg (show ¬ (false = true) by decide)] at H; exact H
        clear H
        have H := H1
        clear H1
        obtain ⟨y232, hy232⟩ : ∃ y_ : List Nat, y_ = (([a0, a1] : List Nat)) := ⟨_, rfl⟩
        replace H : ((sums_total.f kj3 y232).bind fun bt235 => ((sums_num.f t230).bind fun bt240 => ((dyad_Sub.f kj3 bt235.1 bt235.2.1 bt235.2.2 bt240.1 bt240.2.1 bt240.2.2).bind fun bt245 => ((dyad_Round.f bt245.1 bt245.2.1 bt245.2.2.1 2).bind fun bt252 => (some (t230, bt252.1)))))) = some (t230, L) := by first | (rw [hy232]; with_reducible exact H) | (have H2_ := (Option.bind_some _ _).symm.trans H; rw [hy232]; with_reducible exact H2_) | (have H2_ := (Option.bind_some _ _).symm.trans H; with_reducible exact H2_) | with_reducible exact H | (rw [hy232]; exact H) | exact H
        have Ny232 := asd hy232
        clear hy232
        replace H := Option.bind_eq_some_iff.mp H
        obtain ⟨⟨t235, t236, t239⟩, A90, H⟩ := H
        replace H : ((sums_num.f t230).bind fun bt240 => ((dyad_Sub.f kj3 t235 t236 t239 bt240.1 bt240.2.1 bt240.2.2).bind fun bt245 => ((dyad_Round.f bt245.1 bt245.2.1 bt245.2.2.1 2).bind fun bt252 => (some (t230, bt252.1))))) = some (t230, L) := H
        have A9 := asd A90
        clear A90
        replace H := Option.bind_eq_some_iff.mp H
        obtain ⟨⟨t240, t241, t244⟩, A100, H⟩ := H
        replace H : ((dyad_Sub.f kj3 t235 t236 t239 t240 t241 t244).bind fun bt245 => ((dyad_Round.f bt245.1 bt245.2.1 bt245.2.2.1 2).bind fun bt252 => (some (t230, bt252.1)))) = some (t230, L) := H
        have A10 := asd A100
        clear A100
        replace H := Option.bind_eq_some_iff.mp H
        obtain ⟨⟨t245, t246, t249, t250⟩, A110, H⟩ := H
        replace H : ((dyad_Round.f t245 t246 t249 2).bind fun bt252 => (some (t230, bt252.1))) = some (t230, L) := H
        have A11 := asd A110
        clear A110
        replace H := Option.bind_eq_some_iff.mp H
        obtain ⟨⟨t252, t253⟩, A120, H⟩ := H
        replace H : (some (t230, t252)) = some (t230, L) := H
        have A12 := asd A120
        clear A120
        simp only [Option.some.injEq, Prod.mk.injEq, true_and] at H
        subst H
        go_wp2_with (first | ((with_reducible refine gate_dst (N := 25) rfl ?_); refine Kd.R_lit Kd.float _ 25 ?hg (N := 25) ?hd (xs := ([a0, a1] : List Nat)) (inner := [.float .f64 a0, .float .f64 a1]) (ok := fun _ => True) (okp := fun _ => True) ?hr ?hp (fun _ hk => hk) trivial (Below.refl _ _) (Nat.le_refl _) (by simp) ?_; (case hd => rfl); (case hg => rfl); (case hr => first | (go_simp; done) | (go_simp; rfl)); (case hp => exact (Reps.one (show Kd.M Kd.float _ _ _ a0 [.float .f64 a0] from rfl) (Reps.one (show Kd.M Kd.float _ _ _ a1 [.float .f64 a1] from rfl) (Reps.none _ _)))); intro v233 w13 ho14 hb hg_ hnew_; clear hg_ hnew_; (first | rw [← Ny232.out] at ho14 | (simp only [Int.reduceToNat] at ho14; rw [← Ny232.out] at ho14)); have n0_ := asd (Kd.R_lower ho14 (below_size hbw)); have n1_ := asd (below_step hbw hb); clear HB; have HO234 := n0_; have HB := n1_; clear n0_ n1_; clear hb ho14; obtain ⟨Ao15, co15, eo15⟩ := Kd.R_slice HO234.out; subst eo15) | ((with_reducible refine gate_callee (f := 45) rfl ?_); refine goesL_ (some 26) rfl rfl Tryz.func45 (by kernel_rfl) rfl #[.slice Ao15 y232.length co15] rfl eqA ?_; (with_reducible refine (sums_total.calls kj3 _ _ y232 t235 t236 t239 _ ?side1 ?side2 A9.out).mono ?_); (case side1 => repeat (first | exact (Kd.R_reads' HO234.out).2.2 | (with_reducible refine Kd.C_alloc ?_ _) | (with_reducible refine Kd.C_drewN ?_ _) | (with_reducible refine Kd.C_drew ?_))); (case side2 => exact (Kd.R_reads' HO234.out).2.1); rintro e w16 ⟨v237, rfl, ho0, hb⟩; refine ⟨_, rfl, ?_⟩; have n0_ := asd (Kd.R_below (rUp HO234.out) hb); have n1_ := asd (Kd.R_lower ho0 (below_size hbw)); have n2_ := asd (below_step hbw hb); clear HO234; clear HB; have HO234 := n0_; have HO238 := n1_; have HB := n2_; clear n0_ n1_ n2_; (try clear hb); (try clear ho0)) | ((with_reducible refine gate_callee (f := 46) rfl ?_); refine goesL_ (some 28) rfl rfl Tryz.func46 (by kernel_rfl) rfl #[.float .f64 t230] rfl eqA ?_; (with_reducible refine (sums_num.calls t230 t240 t241 t244 _ A10.out).mono ?_); rintro e w17 ⟨v242, rfl, ho0, hb⟩; refine ⟨_, rfl, ?_⟩; have n0_ := asd (Kd.R_below (rUp HO234.out) hb); have n1_ := asd (Kd.R_elder' (rUp HO238.out) (Kd.R_base ho0) hb); have n2_ := asd (Kd.R_lower (Kd.R_new' ho0 (Kd.R_lt (rUp HO238.out))) (below_size hbw)); have n3_ := asd (below_step hbw hb); clear HO234; clear HO238; clear HB; have HO234 := n0_; have HO238 := n1_; have HO243 := n2_; have HB := n3_; clear n0_ n1_ n2_ n3_; (try clear hb); (try clear ho0); obtain ⟨Ao18, co18, eo18⟩ := Kd.R_slice HO238.out; subst eo18; obtain ⟨Ao19, co19, eo19⟩ := Kd.R_slice HO243.out; subst eo19) | ((with_reducible refine gate_callee (f := 44) rfl ?_); refine goesL_ (some 29) rfl rfl Tryz.func44 (by kernel_rfl) rfl #[.agg #[.bool t235, .slice Ao18 t236.length co18, .int .i64 t239], .agg #[.bool t240, .slice Ao19 t241.length co19, .int .i64 t244]] rfl eqA ?_; (with_reducible refine (dyad_Sub.calls kj3 t235 (fun k_ => some k_ = (.slice Ao18 t236.length co18 : Value).ownBlock) _ _ t236 t239 t240 (fun k_ => some k_ = (.slice Ao19 t241.length co19 : Value).ownBlock) _ _ t241 t244 t245 t246 t249 t250 _ ?side1 ?side2 A11.out).mono ?_); (case side1 => exact Kd.R_V (Kd.R_tight rfl (Kd.R_apart' (HO238.out) (Kd.R_typed HO234.out) (by decide)))); (case side2 => exact Kd.R_V (Kd.R_tight rfl (Kd.R_apart' (HO243.out) (Kd.R_typed HO234.out) (by decide)))); rintro e w20 ⟨v247, rfl, ho0, hb⟩; refine ⟨_, rfl, ?_⟩; have n0_ := asd (Kd.R_below (rUp HO234.out) hb); have n1_ := asd (Kd.R_elder' (rUp HO238.out) (Kd.R_base ho0) hb); have n2_ := asd (Kd.R_elder' (rUp HO243.out) (Kd.R_base ho0) hb); have n3_ := asd (Kd.R_lower (Kd.R_new' (Kd.R_new' (Kd.R_mono (ok' := fun k_ => True) ho0 (fun _ hk_ => trivial)) (Kd.R_lt (rUp HO238.out))) (Kd.R_lt (rUp HO243.out))) (below_size hbw)); have n4_ := asd (below_step hbw hb); clear HO234; clear HO238; clear HO243; clear HB; have HO234 := n0_; have HO238 := n1_; have HO243 := n2_; have HO248 := n3_; have HB := n4_; clear n0_ n1_ n2_ n3_ n4_; (try clear hb); (try clear ho0)) | ((with_reducible refine gate_dst (N := 7) rfl ?_); refine box_event ?hg (N := 7) ?hd (cs := #[.bool false, .slice none 0 0, .int .i64 0]) (t := 60) ?hr ?_; (case hd => rfl); (case hg => rfl); (case hr => first | (go_simp; done) | (go_simp; rfl)); intro gb251 hg w21 hbox hb; have n0_ := asd (Kd.R_below (rUp HO234.out) hb); have n1_ := asd (Kd.R_below (rUp HO238.out) hb); have n2_ := asd (Kd.R_below (rUp HO243.out) hb); have n3_ := asd (Kd.R_below (rUp HO248.out) hb); have n4_ := asd (below_step hbw hb); have n5_ := asd (hbox); have n6_ := asd ((by rw [hg]; exact (below_size hbw) : w.heap.size ≤ gb251)); have n7_ := asd ((by rw [hg]; exact (below_size hbw) : w.heap.size ≤ gb251)); clear HO234; clear HO238; clear HO243; clear HO248; clear HB; have HO234 := n0_; have HO238 := n1_; have HO243 := n2_; have HO248 := n3_; have HB := n4_; have BK251 := n5_; have GW251 := n6_; have GE251 := n7_; clear n0_ n1_ n2_ n3_ n4_ n5_ n6_ n7_; clear hb hbox hg; obtain ⟨hcz22_0, hcz22_1, hcz22_2, hfz22_0, hfz22_1, hfz22_2⟩ := cz3 BK251.out; obtain ⟨Ao23, co23, eo23⟩ := Kd.R_slice HO248.out; subst eo23) | ((with_reducible refine gate_callee (f := 47) rfl ?_); refine goesL_ (some 34) rfl rfl Tryz.func47 (by kernel_rfl) rfl #[.agg #[.bool t245, .slice Ao23 t246.length co23, .int .i64 t249], .int .i64 2] rfl eqA ?_; (with_reducible refine (dyad_Round.calls t245 _ _ t246 t249 2 t252 t253 _ ?side1 ?side2 A12.out).mono ?_); (case side1 => refine (Kd.R_reads' (e := 83) (base := w.heap.size) (ok := fun k_ => ((True ∧ some k_ ≠ (.slice Ao18 t236.length co18 : Value).ownBlock) ∧ some k_ ≠ (.slice Ao19 t241.length co19 : Value).ownBlock)) (n := t246.length) (c := co23) ?_).2.2; exact (by (with_reducible repeat (first | apply Kd.R_alloc | apply Kd.R_drewN | apply Kd.R_drew)); exact (Kd.R_mono (Kd.R_far (p := ⟨gb251, 2, none⟩) (Kd.R_far (p := ⟨gb251, 1, none⟩) (Kd.R_far (p := ⟨gb251, 0, none⟩) (Kd.R_types HO248.out BK251.out (by decide)) (fun _ hk => hk.2) (.bool t245)) (fun _ hk => hk.2) (.slice Ao23 t246.length co23)) (fun _ hk => hk.2) (.int .i64 t249)) (fun _ h_ => h_.1)))); (case side2 => exact (Kd.R_reads' HO248.out).2.1); rintro e w24 ⟨rfl, hb⟩; refine ⟨_, rfl, ?_⟩; have n0_ := asd (Kd.R_below (by (with_reducible repeat (first | apply Kd.R_alloc | apply Kd.R_drewN | apply Kd.R_drew)); exact (Kd.R_mono (Kd.R_far (p := ⟨gb251, 2, none⟩) (Kd.R_far (p := ⟨gb251, 1, none⟩) (Kd.R_far (p := ⟨gb251, 0, none⟩) (Kd.R_types HO234.out BK251.out (by decide)) (fun _ hk => hk.2) (.bool t245)) (fun _ hk => hk.2) (.slice Ao23 t246.length co23)) (fun _ hk => hk.2) (.int .i64 t249)) (fun _ h_ => h_.1))) hb); have n1_ := asd (Kd.R_below (by (with_reducible repeat (first | apply Kd.R_alloc | apply Kd.R_drewN | apply Kd.R_drew)); exact (Kd.R_mono (Kd.R_far (p := ⟨gb251, 2, none⟩) (Kd.R_far (p := ⟨gb251, 1, none⟩) (Kd.R_far (p := ⟨gb251, 0, none⟩) (Kd.R_types HO238.out BK251.out (by decide)) (fun _ hk => hk.2) (.bool t245)) (fun _ hk => hk.2) (.slice Ao23 t246.length co23)) (fun _ hk => hk.2) (.int .i64 t249)) (fun _ h_ => h_.1))) hb); have n2_ := asd (Kd.R_below (by (with_reducible repeat (first | apply Kd.R_alloc | apply Kd.R_drewN | apply Kd.R_drew)); exact (Kd.R_mono (Kd.R_far (p := ⟨gb251, 2, none⟩) (Kd.R_far (p := ⟨gb251, 1, none⟩) (Kd.R_far (p := ⟨gb251, 0, none⟩) (Kd.R_types HO243.out BK251.out (by decide)) (fun _ hk => hk.2) (.bool t245)) (fun _ hk => hk.2) (.slice Ao23 t246.length co23)) (fun _ hk => hk.2) (.int .i64 t249)) (fun _ h_ => h_.1))) hb); have n3_ := asd (Kd.R_below (by (with_reducible repeat (first | apply Kd.R_alloc | apply Kd.R_drewN | apply Kd.R_drew)); exact (Kd.R_mono (Kd.R_far (p := ⟨gb251, 2, none⟩) (Kd.R_far (p := ⟨gb251, 1, none⟩) (Kd.R_far (p := ⟨gb251, 0, none⟩) (Kd.R_types HO248.out BK251.out (by decide)) (fun _ hk => hk.2) (.bool t245)) (fun _ hk => hk.2) (.slice Ao23 t246.length co23)) (fun _ hk => hk.2) (.int .i64 t249)) (fun _ h_ => h_.1))) hb); have n4_ := asd (blk_below (g := gb251) (o := .cells #[.bool t245, .slice Ao23 t246.length co23, .int .i64 t249] 60 (0, 0)) (by (with_reducible repeat (first | refine blk_drewN ?_ _ | refine blk_drew ?_ | refine blk_alloc ?_ _)); refine blk_put (cs := #[.bool t245, .slice Ao23 t246.length co23, .int .i64 0]) ?_ 2 _ rfl; (with_reducible repeat (first | refine blk_drewN ?_ _ | refine blk_drew ?_ | refine blk_alloc ?_ _)); refine blk_put (cs := #[.bool t245, .slice none 0 0, .int .i64 0]) ?_ 1 _ rfl; (with_reducible repeat (first | refine blk_drewN ?_ _ | refine blk_drew ?_ | refine blk_alloc ?_ _)); refine blk_put (cs := #[.bool false, .slice none 0 0, .int .i64 0]) ?_ 0 _ rfl; (with_reducible repeat (first | refine blk_drewN ?_ _ | refine blk_drew ?_ | refine blk_alloc ?_ _)); exact BK251.out) hb); have n5_ := asd (below_step hbs hb); clear HO234; clear HO238; clear HO243; clear HO248; clear BK251; clear HB; have HO234 := n0_; have HO238 := n1_; have HO243 := n2_; have HO248 := n3_; have BK251 := n4_; have HB := n5_; clear n0_ n1_ n2_ n3_ n4_ n5_; (try clear hb)))
        go_ret2
        exact ⟨_, N1.out.1, N1.out.2, eqC, hbs⟩
end Go.Proofs.YthmeocigliephaaGreatDoor.Big
end
section
namespace Go.Proofs.YthmeocigliephaaGreatDoor.Big
open Go.Proofs.YthmeocigliephaaGreatDoor.PSu Go.Proofs.YthmeocigliephaaGreatDoor.Plain Ieee
def magN (f : Nat) : Nat := manti f * 2 ^ (expoV f + 1074).toNat
theorem h53 : (2 : Nat) ^ 53 = 9007199254740992 := by decide
theorem h52 : (2 : Nat) ^ 52 = 4503599627370496 := by decide
theorem bits_val {m K : Nat} (h1 : m < 9007199254740992) (h2 : 4503599627370496 ≤ m ∨ K = 0) (hf : K * 4503599627370496 + m < 9218868437227405312) : magN (K * 4503599627370496 + m) = m * 2 ^ K := by
  obtain ⟨f, hff⟩ : ∃ f, K * 4503599627370496 + m = f := ⟨_, rfl⟩
  rw [hff] at hf ⊢
  by_cases hm : 4503599627370496 ≤ m
  · have e1 : expo f = K + 1 := by unfold expo; omega
    have e2 : frac f = m - 4503599627370496 := by unfold frac; omega
    have e3 : manti f = m := by unfold manti; rw [e1, if_neg (by omega), e2]; omega
    have e4 : (expoV f + 1074).toNat = K := by unfold expoV; rw [e1, if_neg (by omega)]; omega
    unfold magN
    rw [e3, e4]
  · have hK := h2.resolve_left hm
    subst hK
    have e1 : expo f = 0 := by unfold expo; omega
    have e2 : frac f = m := by unfold frac; omega
    have e3 : manti f = m := by unfold manti; rw [e1, if_pos rfl, e2]
    have e4 : (expoV f + 1074).toNat = 0 := by unfold expoV; rw [e1, if_pos rfl]; rfl
    unfold magN
    rw [e3, e4]
theorem tail_val {q k : Nat} (h1 : q ≤ 9007199254740992) (h2 : 4503599627370496 ≤ q ∨ k = 0) (hq : q ≠ 0) :
    (tailV q ((k : Int) - 1074) < infB → magN (tailV q ((k : Int) - 1074)) = q * 2 ^ k) ∧ (bl (q * 2 ^ k) ≤ 2098 → tailV q ((k : Int) - 1074) < infB) := by
  have hbq := bl_mul_pow hq k
  unfold tailV
  by_cases hb : 53 < bl q
  · have hm : q = 9007199254740992 := by
      have : ¬ q < 2 ^ 53 := fun h => by have := bl_le.2 h; omega
      rw [h53] at this; omega
    subst hm
    have hb1 : bl 9007199254740992 = 54 := by decide
    have hb2 : bl (9007199254740992 / 2) = 53 := by decide
    rw [if_pos hb, hb2]
    by_cases ho : 1024 < ((53 : Nat) : Int) + ((k : Int) - 1074 + 1)
    · rw [if_pos ho]
      exact ⟨fun h => absurd h (by omega), fun h => by omega⟩
    · rw [if_neg ho]
      have hbo : bitsOf (9007199254740992 / 2) ((k : Int) - 1074 + 1) = (k + 1) * 4503599627370496 + 4503599627370496 := by unfold bitsOf; omega
      rw [hbo]
      have hlt : (k + 1) * 4503599627370496 + 4503599627370496 < infB := by unfold infB; omega
      refine ⟨fun _ => ?_, fun _ => hlt⟩
      rw [bits_val (by omega) (.inl (by omega)) hlt, Nat.pow_succ]; omega
  · have hm : q < 9007199254740992 := by have := bl_le.1 (show bl q ≤ 53 by omega); rw [h53] at this; exact this
    rw [if_neg hb]
    by_cases ho : 1024 < (bl q : Int) + ((k : Int) - 1074)
    · rw [if_pos ho]
      refine ⟨fun h => absurd h (by omega), fun h => ?_⟩
      rw [hbq] at h; omega
    · rw [if_neg ho]
      have hbo : bitsOf q ((k : Int) - 1074) = k * 4503599627370496 + q := by unfold bitsOf; omega
      rw [hbo]
      have hlt : k * 4503599627370496 + q < infB := by
        unfold infB
        rcases h2 with h | h
        · have : bl q = 53 := bl_unique (k := 52) (by rw [h52]; exact h) (by rw [h53]; exact hm)
          omega
        · subst h; omega
      exact ⟨fun _ => bits_val hm h2 hlt, fun _ => hlt⟩
def qN (n : Nat) : Nat := n / 2 ^ (bl n - 53) + if incV n (bl n - 53) false true = true then 1 else 0
theorem magV_val (n : Nat) (hn : n ≠ 0) :
    (magV n (-1074) false true < infB → magN (magV n (-1074) false true) = qN n * 2 ^ (bl n - 53)) ∧ (bl n ≤ 2098 → bl (qN n * 2 ^ (bl n - 53)) ≤ 2098 → magV n (-1074) false true < infB) := by
  obtain ⟨k, hk⟩ : ∃ k, bl n - 53 = k := ⟨_, rfl⟩
  have hP : 0 < 2 ^ k := Nat.pow_pos (by omega)
  have hb0 : bl n ≠ 0 := by rw [bl_pos hn]; omega
  have hlt : n < 2 ^ bl n := bl_le.1 (Nat.le_refl _)
  have hq : qN n ≤ 9007199254740992 ∧ (4503599627370496 ≤ qN n ∨ k = 0) ∧ qN n ≠ 0 := by
    unfold qN
    rw [hk]
    by_cases hk0 : k = 0
    · subst hk0
      have hi : incV n 0 false true = false := by unfold incV; simp [Nat.mod_one]
      have h5 : n < 2 ^ 53 := bl_le.1 (by omega)
      rw [h53] at h5
      rw [hi, Nat.pow_zero, Nat.div_one, if_neg (by simp)]
      exact ⟨by omega, .inr rfl, by omega⟩
    · have hbl : bl n = 53 + k := by omega
      have h1 : n / 2 ^ k < 2 ^ 53 := by
        rw [Nat.div_lt_iff_lt_mul hP, ← Nat.pow_add, ← hbl]; exact hlt
      have h2 : 2 ^ 52 ≤ n / 2 ^ k := by
        rw [Nat.le_div_iff_mul_le hP, ← Nat.pow_add]
        refine Nat.le_of_not_lt fun h => ?_
        have := bl_le.2 h
        omega
      rw [h53] at h1
      rw [h52] at h2
      refine ⟨by split <;> omega, .inl (by omega), by omega⟩
  have ht := tail_val hq.1 hq.2.1 hq.2.2
  have he : magV n (-1074) false true = if 1024 < (bl n : Int) + -1074 then infB else tailV (qN n) ((k : Int) - 1074) := by
    unfold magV
    by_cases h1 : 1024 < (bl n : Int) + -1074
    · rw [if_pos h1, if_pos h1, if_pos (by rfl)]
    · rw [if_neg h1, if_neg h1, if_neg (by omega)]
      have hl : lastV ((bl n : Int) + -1074) = (k : Int) - 1074 := by unfold lastV; split <;> omega
      rw [hl]
      by_cases hk0 : k = 0
      · have hqn : qN n = n := by
          unfold qN
          rw [hk, hk0]
          have hi : incV n 0 false true = false := by unfold incV; simp [Nat.mod_one]
          rw [hi, Nat.pow_zero, Nat.div_one, if_neg (by simp)]; rfl
        rw [if_pos (by omega), hqn, show ((-1074 : Int) - ((k : Int) - 1074)).toNat = 0 by omega, Nat.pow_zero, Nat.mul_one]
      · rw [if_neg (by omega), show ((k : Int) - 1074 - -1074).toNat = k by omega]
        unfold qN
        rw [hk]
  rw [he, hk]
  by_cases h1 : 1024 < (bl n : Int) + -1074
  · rw [if_pos h1]
    exact ⟨fun h => absurd h (by omega), fun h _ => by omega⟩
  · rw [if_neg h1]
    exact ⟨ht.1, fun _ h => ht.2 h⟩
theorem nearest (n k : Nat) (hk : 1 ≤ k) (t : Int) : ((n : Int) - ((n / 2 ^ k + if incV n k false true = true then 1 else 0 : Nat) : Int) * ((2 ^ k : Nat) : Int)).natAbs ≤ ((n : Int) - t * ((2 ^ k : Nat) : Int)).natAbs := by
  have hD : 2 ^ k = 2 * 2 ^ (k - 1) := by
    obtain ⟨j, rfl⟩ : ∃ j, k = j + 1 := ⟨k - 1, by omega⟩
    rw [Nat.pow_succ, Nat.add_sub_cancel]; omega
  have hm := Nat.div_add_mod n (2 ^ k)
  have hr := Nat.mod_lt n (show 2 ^ k > 0 from Nat.pow_pos (by omega))
  have hinc : (incV n k false true = true → 2 ^ (k - 1) ≤ n % 2 ^ k) ∧ (¬ incV n k false true = true → n % 2 ^ k ≤ 2 ^ (k - 1)) := by
    unfold incV
    by_cases h1 : 2 ^ (k - 1) < n % 2 ^ k
    · simp [h1]; omega
    · by_cases h2 : n % 2 ^ k = 2 ^ (k - 1)
      · simp [h2]
      · simp [h1, h2]; omega
  generalize n / 2 ^ k = Q at hm ⊢
  generalize n % 2 ^ k = r at hm hr hinc
  generalize 2 ^ (k - 1) = H at hD hinc
  generalize 2 ^ k = D at hD hm hr ⊢
  have hn : (n : Int) = (D : Int) * (Q : Int) + (r : Int) := by rw [← hm]; simp
  have e2 : (n : Int) - t * (D : Int) = (r : Int) - (t - Q) * (D : Int) := by
    rw [hn, Int.sub_mul, Int.mul_comm (Q : Int)]; omega
  have hu : (t - Q) * (D : Int) ≤ 0 ∨ (D : Int) ≤ (t - Q) * (D : Int) := by
    rcases Int.lt_or_le 0 (t - Q) with h | h
    · right
      have := Int.mul_le_mul_of_nonneg_right (show (1 : Int) ≤ t - Q by omega) (show (0 : Int) ≤ (D : Int) by omega)
      omega
    · left
      have := Int.mul_le_mul_of_nonneg_right h (show (0 : Int) ≤ (D : Int) by omega)
      omega
  rw [e2]
  by_cases hc : incV n k false true = true
  · rw [if_pos hc]
    have := hinc.1 hc
    have e1 : (n : Int) - ((Q + 1 : Nat) : Int) * (D : Int) = (r : Int) - (D : Int) := by
      rw [hn, show ((Q + 1 : Nat) : Int) = (Q : Int) + 1 by omega, Int.add_mul, Int.mul_comm (Q : Int)]; omega
    rw [e1]; omega
  · rw [if_neg hc]
    have := hinc.2 hc
    have e1 : (n : Int) - ((Q + 0 : Nat) : Int) * (D : Int) = (r : Int) := by
      rw [hn, Nat.add_zero, Int.mul_comm (Q : Int)]; omega
    rw [e1]; omega
theorem q_exact {n k : Nat} (h : n % 2 ^ k = 0) : (n / 2 ^ k + if incV n k false true = true then 1 else 0) * 2 ^ k = n := by
  have hi : incV n k false true = false := by
    have : 0 < 2 ^ (k - 1) := Nat.pow_pos (by omega)
    unfold incV
    rw [h]
    simp
    omega
  rw [hi, if_neg (by simp), Nat.add_zero]
  have := Nat.div_add_mod n (2 ^ k)
  rw [Nat.mul_comm]; omega
theorem flz_sign {f : Nat} (h : f < infB) (neg : Bool) : Fin64 (signV neg f) ∧ flz (signV neg f) = if neg = true then -(magN f : Int) else (magN f : Int) := by
  unfold infB at h
  have hm : ∀ b, flz b = if sgn b = true then -(magN b : Int) else (magN b : Int) := by
    intro b
    unfold flz floV magN
    rw [Int.natCast_mul, Int.natCast_pow]
    split
    · rw [Int.neg_mul]; rfl
    · rfl
  cases neg
  · rw [show signV false f = f from rfl]
    refine ⟨⟨by omega, by omega⟩, ?_⟩
    rw [hm, show sgn f = false from decide_eq_false (by omega)]
  · rw [show signV true f = f + 9223372036854775808 from rfl]
    refine ⟨⟨by omega, by omega⟩, ?_⟩
    have e1 : expo (f + 9223372036854775808) = expo f := by unfold expo; omega
    have e2 : frac (f + 9223372036854775808) = frac f := by unfold frac; omega
    have e3 : magN (f + 9223372036854775808) = magN f := by unfold magN manti expoV; rw [e1, e2]
    rw [hm, show sgn (f + 9223372036854775808) = true from decide_eq_true (by omega), e3]
theorem rnd_eq {z : Int} (hz : z ≠ 0) : rndZ z 2 = signV (decide (z < 0)) (magV z.natAbs (-1074) false true) := by
  unfold rndZ
  rw [if_neg hz, roundV_eq]
  have : (if decide (z < 0) = true then (2 : Int) == 1 else (2 : Int) == 3) = false := by split <;> rfl
  rw [this]; rfl
end Go.Proofs.YthmeocigliephaaGreatDoor.Big
end
section
namespace Go.Proofs.YthmeocigliephaaGreatDoor
open Go.RowKit Go.Proofs.YthmeocigliephaaGreatDoorW.PrintWords Go.Proofs.YthmeocigliephaaGreatDoor.Big
def sums_Exact.f (l0 : List Nat) (a1 : Int) : Option (Nat × Int) :=
  if l0.length < 4611686018427387904 ∧ ∀ b ∈ l0, b < 18446744073709551616 then some (exactW l0 a1 (canN (sumZ l0) (-1074))) else none
theorem sums_Exact.calls (A0 : Option Addr) (c0 : Nat) (l0 : List Nat) (a1 : Int) (r1 : Nat) (r2 : Int) (w : World) (hr0 : Kd.C Kd.float w A0 l0.length l0) (hc0 : l0.length ≤ c0) (h : sums_Exact.f l0 a1 = some (r1, r2)) (hL : Laid w := by exact Go.Proofs.YthmeocigliephaaGreatDoor.Big.Laid.step HL.out hbw) :
    Calls Tryz.prog 22 #[.slice A0 l0.length c0, .int .i64 a1] w fun e w' => e = .returned (.tuple #[.float .f64 r1, .int .i64 r2]) ∧ Below w.heap.size w w' := by
  unfold sums_Exact.f at h
  split at h
  · rename_i hf
    have := exact_list A0 c0 l0 a1 w hr0 hc0 hf.1 hf.2 hL
    rw [Option.some.inj h] at this
    exact this
  · cases h
end Go.Proofs.YthmeocigliephaaGreatDoor
end
section
namespace Go.Proofs.YthmeocigliephaaGreatDoor
open Go.RowKit Go.Proofs.YthmeocigliephaaGreatDoorW.PrintWords Go.Proofs.YthmeocigliephaaGreatDoor.Big
def cusplaw05_sure.f : Option Bool := some true
end Go.Proofs.YthmeocigliephaaGreatDoor
end
section
namespace Go.Proofs.YthmeocigliephaaGreatDoor.PSu
attribute [local go_sem] f64bits_run f64from_run run_float_some max2_int min2_int max_two min_two max_three min_three max_four min_four
def cuspref02_Float.f (k : Nat) (a0 : Nat) : Option (Bool × List Int × Int) := if (wrap64 (Go.bits .and .u64 (((a0 : Nat) : Int) / 4503599627370496) 2047)) = 0 then ((cuspref02_norm.f k ((((a0 : Nat) : Int) / 9223372036854775808) == 1) (([(Go.bits .and .u64 ((a0 : Nat) : Int) 4503599627370495) % 4294967296, ((Go.bits .and .u64 ((a0 : Nat) : Int) 4503599627370495) / 4294967296) % 4294967296] : List Int)) (1 - 1075)).bind fun bt361 => (some (bt361.1, bt361.2.1, bt361.2.2))) else ((cuspref02_norm.f k ((((a0 : Nat) : Int) / 9223372036854775808) == 1) (([(Go.bits .or .u64 (Go.bits .and .u64 ((a0 : Nat) : Int) 4503599627370495) 4503599627370496) % 4294967296, ((Go.bits .or .u64 (Go.bits .and .u64 ((a0 : Nat) : Int) 4503599627370495) 4503599627370496) / 4294967296) % 4294967296] : List Int)) (wrap64 ((wrap64 (Go.bits .and .u64 (((a0 : Nat) : Int) / 4503599627370496) 2047)) - 1075))).bind fun bt369 => (some (bt369.1, bt369.2.1, bt369.2.2)))
theorem cuspref02_Float.calls (k : Nat) (a0 : Nat) (r1 : Bool) (r2 : List Int) (r3 : Int) (w : World) (h : cuspref02_Float.f k a0 = some (r1, r2, r3)) :
  Calls Tryz.prog 26 #[.float .f64 a0] w fun e w' => ∃ v1_ : Value, e = .returned (.agg #[.bool r1, v1_, .int .i64 r3]) ∧ Kd.R (Kd.int .u32) 83 w' w.heap.size (fun _ => True) v1_ r2 ∧ Below w.heap.size w w' := by
 have hu41 := Tryz.underlying41
 have HB := asd (Below.refl w.heap.size w)
 have H := h
 clear h
 unfold cuspref02_Float.f at H
 by_cases c2 : (wrap64 (Go.bits .and .u64 (((a0 : Nat) : Int) / 4503599627370496) 2047)) = 0
 ·rw [if_pos c2] at H
  have c2b0 := beq_iff_eq.mpr c2
  have c2b1 := bne_eq_false_iff_eq.mpr c2
  clear c2
  obtain ⟨y358, hy358⟩ : ∃ y_ : List Int, y_ = (([(Go.bits .and .u64 ((a0 : Nat) : Int) 4503599627370495) % 4294967296, ((Go.bits .and .u64 ((a0 : Nat) : Int) 4503599627370495) / 4294967296) % 4294967296] : List Int)) := ⟨_, rfl⟩
  try rw [Option.bind_some] at H
  try rw [← hy358] at H
  have Ny358 := asd hy358
  clear hy358
  replace H := Option.bind_eq_some_iff.mp H
  obtain ⟨⟨t361, t362, t365⟩, A30, H⟩ := H
  replace H : (some (t361, t362, t365)) = some (r1, r2, r3) := H
  have A3 := asd A30
  clear A30
  simp only [Option.some.injEq, Prod.mk.injEq] at H
  obtain ⟨rfl, rfl, rfl⟩ := H
  go_enter Tryz.func26, Tryz.ntmps26
  go_wp2_with (first | ((with_reducible refine gate_dst (N := 2) rfl ?_); refine box_ev (w := w) ?hg (N := 2) ?hd hbw (cs := #[.bool false, .slice none 0 0, .int .i64 0]) (t := 41) ?hr ?_; (case hd => rfl); (case hg => rfl); (case hr => first | (go_simp; done) | (go_simp; rfl)); clear HB; intro gb357 w4 HB BK357 GW357; have GE357 := GW357) | ((with_reducible refine gate_dst (N := 26) rfl ?_); refine Kd.R_lit (Kd.int .u32) _ 83 ?hg (N := 26) ?hd (xs := ([(Go.bits .and .u64 ((a0 : Nat) : Int) 4503599627370495) % 4294967296, ((Go.bits .and .u64 ((a0 : Nat) : Int) 4503599627370495) / 4294967296) % 4294967296] : List Int)) (inner := [.int .u32 ((Go.bits .and .u64 ((a0 : Nat) : Int) 4503599627370495) % 4294967296), .int .u32 (((Go.bits .and .u64 ((a0 : Nat) : Int) 4503599627370495) / 4294967296) % 4294967296)]) (ok := fun _ => True) (okp := fun _ => True) ?hr ?hp (fun _ hk => hk) trivial (Below.refl _ _) (Nat.le_refl _) (by simp) ?_; (case hd => rfl); (case hg => rfl); (case hr => first | (go_simp; done) | (go_simp; rfl)); (case hp => exact (Reps.one (show Kd.M (Kd.int .u32) _ _ _ ((Go.bits .and .u64 ((a0 : Nat) : Int) 4503599627370495) % 4294967296) [.int .u32 ((Go.bits .and .u64 ((a0 : Nat) : Int) 4503599627370495) % 4294967296)] from rfl) (Reps.one (show Kd.M (Kd.int .u32) _ _ _ (((Go.bits .and .u64 ((a0 : Nat) : Int) 4503599627370495) / 4294967296) % 4294967296) [.int .u32 (((Go.bits .and .u64 ((a0 : Nat) : Int) 4503599627370495) / 4294967296) % 4294967296)] from rfl) (Reps.none _ _)))); intro v359 w5 ho6 hb hg_ hnew_; clear hg_ hnew_; (first | rw [← Ny358.out] at ho6 | (simp only [Int.reduceToNat] at ho6; rw [← Ny358.out] at ho6)); have n0_ := asd (Kd.R_lower ho6 (below_size hbs)); have n1_ := asd (blk_below (g := gb357) (o := .cells #[.bool false, .slice none 0 0, .int .i64 0] 41 (0, 0)) (blkU BK357.out) hb); have n2_ := asd (below_step hbs hb); clear BK357; clear HB; have HO360 := n0_; have BK357 := n1_; have HB := n2_; clear n0_ n1_ n2_; clear hb ho6; obtain ⟨Ao7, co7, eo7⟩ := Kd.R_slice HO360.out; subst eo7) | ((with_reducible refine gate_callee (f := 65) rfl ?_); refine goesL_ (some 29) rfl rfl Tryz.func65 (by kernel_rfl) rfl #[.bool ((((a0 : Nat) : Int) / 9223372036854775808) == 1), .slice Ao7 y358.length co7, .int .i64 (1 - 1075)] rfl eqA ?_; (with_reducible refine (cuspref02_norm.calls k ((((a0 : Nat) : Int) / 9223372036854775808) == 1) (fun k_ => some k_ = (.slice Ao7 y358.length co7 : Value).ownBlock) (.slice Ao7 y358.length co7) y358 (1 - 1075) t361 t362 t365 w _ ?side1 ?side2 A3.out).mono ?_); (case side1 => repeat (first | (with_reducible first | exact HB.out | apply below_alloc | apply pw_below_drewN | apply below_drew1 | refine below_set ?_ GE357.out) | exact HB.out)); (case side2 => exact Kd.R_tight rfl HO360.out); rintro e w8 ⟨v363, rfl, ho0, hb, hkp⟩; refine ⟨_, rfl, ?_⟩; have n0_ := asd (blk_kept (blkU BK357.out) hkp (fun hs_ => (fun e_ => (Kd.R_ne HO360.out BK357.out (by decide)) e_) hs_)); have n1_ := asd (Kd.R_mono (ok' := fun k_ => True) ho0 (fun k_ hk_ => trivial)); have n2_ := asd (hb); clear BK357; clear HB; clear HO360; have BK357 := n0_; have HO364 := n1_; have HB := n2_; clear n0_ n1_ n2_; (try clear hb); (try clear hkp); (try clear ho0); obtain ⟨hcz9_0, hcz9_1, hcz9_2, hfz9_0, hfz9_1, hfz9_2⟩ := cz3 BK357.out; obtain ⟨Ao10, co10, eo10⟩ := Kd.R_slice HO364.out; subst eo10))
  refine bodyPost_ret (results_cell_row rfl _ _ gb357 41 #[.bool t361, .slice Ao10 t362.length co10, .int .i64 t365] (0, 0) _ rfl (by (with_reducible repeat (first | refine blk_drewN ?_ _ | refine blk_drew ?_ | refine blk_alloc ?_ _)); refine blk_put (cs := #[.bool t361, .slice Ao10 t362.length co10, .int .i64 0]) ?_ 2 _ rfl; (with_reducible repeat (first | refine blk_drewN ?_ _ | refine blk_drew ?_ | refine blk_alloc ?_ _)); refine blk_put (cs := #[.bool t361, .slice none 0 0, .int .i64 0]) ?_ 1 _ rfl; (with_reducible repeat (first | refine blk_drewN ?_ _ | refine blk_drew ?_ | refine blk_alloc ?_ _)); refine blk_put (cs := #[.bool false, .slice none 0 0, .int .i64 0]) ?_ 0 _ rfl; (with_reducible repeat (first | refine blk_drewN ?_ _ | refine blk_drew ?_ | refine blk_alloc ?_ _)); exact BK357.out) Tryz.underlying41 rfl (by kernel_rfl)) rfl ?_
  exact ⟨_, eqC, by (with_reducible repeat (first | apply Kd.R_alloc | apply Kd.R_drewN | apply Kd.R_drew)); exact Kd.R_mono (Kd.R_far (p := ⟨gb357, 2, none⟩) (Kd.R_far (p := ⟨gb357, 1, none⟩) (Kd.R_far (p := ⟨gb357, 0, none⟩) (Kd.R_types HO364.out BK357.out (by decide)) (fun _ hk => hk.2) (.bool t361)) (fun _ hk => hk.2) (.slice Ao10 t362.length co10)) (fun _ hk => hk.2) (.int .i64 t365)) (fun _ hk => trivial), hbs⟩
 ·rw [if_neg c2] at H
  have c2b0 := beq_eq_false_iff_ne.mpr c2
  have c2b1 := bne_iff_ne.mpr c2
  obtain ⟨y366, hy366⟩ : ∃ y_ : List Int, y_ = (([(Go.bits .or .u64 (Go.bits .and .u64 ((a0 : Nat) : Int) 4503599627370495) 4503599627370496) % 4294967296, ((Go.bits .or .u64 (Go.bits .and .u64 ((a0 : Nat) : Int) 4503599627370495) 4503599627370496) / 4294967296) % 4294967296] : List Int)) := ⟨_, rfl⟩
  try rw [Option.bind_some] at H
  try rw [← hy366] at H
  have Ny366 := asd hy366
  clear hy366
  replace H := Option.bind_eq_some_iff.mp H
  obtain ⟨⟨t369, t370, t373⟩, A110, H⟩ := H
  replace H : (some (t369, t370, t373)) = some (r1, r2, r3) := H
  have A11 := asd A110
  clear A110
  simp only [Option.some.injEq, Prod.mk.injEq] at H
  obtain ⟨rfl, rfl, rfl⟩ := H
  go_enter Tryz.func26, Tryz.ntmps26
  go_wp2_with (first | ((with_reducible refine gate_dst (N := 2) rfl ?_); refine box_ev (w := w) ?hg (N := 2) ?hd hbw (cs := #[.bool false, .slice none 0 0, .int .i64 0]) (t := 41) ?hr ?_; (case hd => rfl); (case hg => rfl); (case hr => first | (go_simp; done) | (go_simp; rfl)); clear HB; intro gb357 w12 HB BK357 GW357; have GE357 := GW357) | ((with_reducible refine gate_dst (N := 26) rfl ?_); refine Kd.R_lit (Kd.int .u32) _ 83 ?hg (N := 26) ?hd (xs := ([(Go.bits .or .u64 (Go.bits .and .u64 ((a0 : Nat) : Int) 4503599627370495) 4503599627370496) % 4294967296, ((Go.bits .or .u64 (Go.bits .and .u64 ((a0 : Nat) : Int) 4503599627370495) 4503599627370496) / 4294967296) % 4294967296] : List Int)) (inner := [.int .u32 ((Go.bits .or .u64 (Go.bits .and .u64 ((a0 : Nat) : Int) 4503599627370495) 4503599627370496) % 4294967296), .int .u32 (((Go.bits .or .u64 (Go.bits .and .u64 ((a0 : Nat) : Int) 4503599627370495) 4503599627370496) / 4294967296) % 4294967296)]) (ok := fun _ => True) (okp := fun _ => True) ?hr ?hp (fun _ hk => hk) trivial (Below.refl _ _) (Nat.le_refl _) (by simp) ?_; (case hd => rfl); (case hg => rfl); (case hr => first | (go_simp; done) | (go_simp; rfl)); (case hp => exact (Reps.one (show Kd.M (Kd.int .u32) _ _ _ ((Go.bits .or .u64 (Go.bits .and .u64 ((a0 : Nat) : Int) 4503599627370495) 4503599627370496) % 4294967296) [.int .u32 ((Go.bits .or .u64 (Go.bits .and .u64 ((a0 : Nat) : Int) 4503599627370495) 4503599627370496) % 4294967296)] from rfl) (Reps.one (show Kd.M (Kd.int .u32) _ _ _ (((Go.bits .or .u64 (Go.bits .and .u64 ((a0 : Nat) : Int) 4503599627370495) 4503599627370496) / 4294967296) % 4294967296) [.int .u32 (((Go.bits .or .u64 (Go.bits .and .u64 ((a0 : Nat) : Int) 4503599627370495) 4503599627370496) / 4294967296) % 4294967296)] from rfl) (Reps.none _ _)))); intro v367 w13 ho14 hb hg_ hnew_; clear hg_ hnew_; (first | rw [← Ny366.out] at ho14 | (simp only [Int.reduceToNat] at ho14; rw [← Ny366.out] at ho14)); have n0_ := asd (Kd.R_lower ho14 (below_size hbs)); have n1_ := asd (blk_below (g := gb357) (o := .cells #[.bool false, .slice none 0 0, .int .i64 0] 41 (0, 0)) (blkU BK357.out) hb); have n2_ := asd (below_step hbs hb); clear BK357; clear HB; have HO368 := n0_; have BK357 := n1_; have HB := n2_; clear n0_ n1_ n2_; clear hb ho14; obtain ⟨Ao15, co15, eo15⟩ := Kd.R_slice HO368.out; subst eo15) | ((with_reducible refine gate_callee (f := 65) rfl ?_); refine goesL_ (some 29) rfl rfl Tryz.func65 (by kernel_rfl) rfl #[.bool ((((a0 : Nat) : Int) / 9223372036854775808) == 1), .slice Ao15 y366.length co15, .int .i64 (wrap64 ((wrap64 (Go.bits .and .u64 (((a0 : Nat) : Int) / 4503599627370496) 2047)) - 1075))] rfl eqA ?_; (with_reducible refine (cuspref02_norm.calls k ((((a0 : Nat) : Int) / 9223372036854775808) == 1) (fun k_ => some k_ = (.slice Ao15 y366.length co15 : Value).ownBlock) (.slice Ao15 y366.length co15) y366 (wrap64 ((wrap64 (Go.bits .and .u64 (((a0 : Nat) : Int) / 4503599627370496) 2047)) - 1075)) t369 t370 t373 w _ ?side1 ?side2 A11.out).mono ?_); (case side1 => repeat (first | (with_reducible first | exact HB.out | apply below_alloc | apply pw_below_drewN | apply below_drew1 | refine below_set ?_ GE357.out) | exact HB.out)); (case side2 => exact Kd.R_tight rfl HO368.out); rintro e w16 ⟨v371, rfl, ho0, hb, hkp⟩; refine ⟨_, rfl, ?_⟩; have n0_ := asd (blk_kept (blkU BK357.out) hkp (fun hs_ => (fun e_ => (Kd.R_ne HO368.out BK357.out (by decide)) e_) hs_)); have n1_ := asd (Kd.R_mono (ok' := fun k_ => True) ho0 (fun k_ hk_ => trivial)); have n2_ := asd (hb); clear BK357; clear HB; clear HO368; have BK357 := n0_; have HO372 := n1_; have HB := n2_; clear n0_ n1_ n2_; (try clear hb); (try clear hkp); (try clear ho0); obtain ⟨hcz17_0, hcz17_1, hcz17_2, hfz17_0, hfz17_1, hfz17_2⟩ := cz3 BK357.out; obtain ⟨Ao18, co18, eo18⟩ := Kd.R_slice HO372.out; subst eo18))
  refine bodyPost_ret (results_cell_row rfl _ _ gb357 41 #[.bool t369, .slice Ao18 t370.length co18, .int .i64 t373] (0, 0) _ rfl (by (with_reducible repeat (first | refine blk_drewN ?_ _ | refine blk_drew ?_ | refine blk_alloc ?_ _)); refine blk_put (cs := #[.bool t369, .slice Ao18 t370.length co18, .int .i64 0]) ?_ 2 _ rfl; (with_reducible repeat (first | refine blk_drewN ?_ _ | refine blk_drew ?_ | refine blk_alloc ?_ _)); refine blk_put (cs := #[.bool t369, .slice none 0 0, .int .i64 0]) ?_ 1 _ rfl; (with_reducible repeat (first | refine blk_drewN ?_ _ | refine blk_drew ?_ | refine blk_alloc ?_ _)); refine blk_put (cs := #[.bool false, .slice none 0 0, .int .i64 0]) ?_ 0 _ rfl; (with_reducible repeat (first | refine blk_drewN ?_ _ | refine blk_drew ?_ | refine blk_alloc ?_ _)); exact BK357.out) Tryz.underlying41 rfl (by kernel_rfl)) rfl ?_
  exact ⟨_, eqC, by (with_reducible repeat (first | apply Kd.R_alloc | apply Kd.R_drewN | apply Kd.R_drew)); exact Kd.R_mono (Kd.R_far (p := ⟨gb357, 2, none⟩) (Kd.R_far (p := ⟨gb357, 1, none⟩) (Kd.R_far (p := ⟨gb357, 0, none⟩) (Kd.R_types HO372.out BK357.out (by decide)) (fun _ hk => hk.2) (.bool t369)) (fun _ hk => hk.2) (.slice Ao18 t370.length co18)) (fun _ hk => hk.2) (.int .i64 t373)) (fun _ hk => trivial), hbs⟩
def cuspref05_Total.l0 : Nat → List Nat → Int → Bool → List Int → Int → Option (Bool × List Int × Int)
 | 0, _, _, _, _, _ => none
 | k + 1, x0, x4, x376000, x376001, x376002 => if x4 < (x0.length : Int) then (if 0 ≤ x4 then ((cuspref02_Float.f k (rdOf (0 : Nat) x0 x4)).bind fun bt377 => ((cuspref02_Plus.f x376000 x376001 x376002 bt377.1 bt377.2.1 bt377.2.2).bind fun bt382 => (cuspref05_Total.l0 k x0 (wrap64 (x4 + 1)) bt382.1 bt382.2.1 bt382.2.2))) else (none)) else (some (x376000, x376001, x376002))
def cuspref05_Total.f (k : Nat) (l0 : List Nat) : Option (Bool × List Int × Int) := cuspref05_Total.l0 k l0 0 false ([] : List Int) 0
def cuspref01_Of.f (a0 : Int) : Option (Nat) := some ((a0 : Int).toNat)
theorem cuspref01_Of.calls (a0 : Int) (r : Nat) (w : World) (h : cuspref01_Of.f a0 = some r) :
  Calls Tryz.prog 72 #[.int .u64 a0] w fun e w' => e = .returned (.float .f64 r) ∧ Drawn0 w w' := by
 have H := h
 clear h
 unfold cuspref01_Of.f at H
 obtain rfl := Option.some.inj H
 go_enter Tryz.func72, Tryz.ntmps72
 go_wp2
 go_ret
 exact ⟨eqB, dn0⟩
def cuspref01_Nought.f (a0 : Bool) : Option (Nat) := if a0 = true then ((cuspref01_Of.f 9223372036854775808).bind fun t387 => (some t387)) else ((cuspref01_Of.f 0).bind fun t388 => (some t388))
def cuspref05_Exact.l0 : Nat → List Nat → Int → Bool → Int → Option (Nat × Int)
 | 0, _, _, _, _ => none
 | k + 1, x0, x1, x7, x8 => if x8 < (x0.length : Int) then (if x7 = true then (if 0 ≤ x8 then ((cuspref01_IsZero.f (rdOf (0 : Nat) x0 x8)).bind fun t392 => (if t392 = true then ((cuspref01_Neg.f (rdOf (0 : Nat) x0 x8)).bind fun t394 => (cuspref05_Exact.l0 k x0 x1 t394 (wrap64 (x8 + 1)))) else (cuspref05_Exact.l0 k x0 x1 false (wrap64 (x8 + 1))))) else (none)) else (cuspref05_Exact.l0 k x0 x1 false (wrap64 (x8 + 1)))) else ((cuspref05_Total.f k x0).bind fun bt395 => ((cuspref01_Nought.f x7).bind fun t400 => ((cuspref03_R.f bt395.1 bt395.2.1 bt395.2.2 x1 t400).bind fun t401 => (some (t401, 0)))))
def cuspref05_Exact.f (k : Nat) (l0 : List Nat) (a1 : Int) : Option (Nat × Int) := (cuspref03_Valid.f a1).bind fun t389 => (if t389 = 0 then ((cuspref05_Fault.f k l0).bind fun t390 => (if t390 = 0 then (cuspref05_Exact.l0 k l0 a1 (decide ((l0.length : Int) > 0)) 0) else (some ((0 : Nat), t390)))) else (some ((0 : Nat), 1)))
def cusplaw05_SumsExact.f (k : Nat) (l0 : List Nat) (a1 : Int) : Option (Bool) := (sums_Exact.f l0 a1).bind fun bt402 => ((cuspref05_Exact.f k l0 a1).bind fun bt404 => ((cusplaw05_same.f bt402.1 bt404.1).bind fun t406 => (if t406 = true then (if bt402.2 = bt404.2 then ((cusplaw05_sure.f).bind fun t407 => (some t407)) else (some false)) else (some false))))
end Go.Proofs.YthmeocigliephaaGreatDoor.PSu
end
section
namespace Go.Proofs.YthmeocigliephaaGreatDoor.Big
open Go.Proofs.YthmeocigliephaaGreatDoor.PSu Go.Proofs.YthmeocigliephaaGreatDoor.Plain
theorem sgn_div {b : Nat} (h : b < 18446744073709551616) : (((b : Int) / 9223372036854775808) == 1) = sgn b := by
  unfold sgn
  by_cases h1 : 9223372036854775808 ≤ b
  · rw [decide_eq_true h1]; simp; omega
  · rw [decide_eq_false h1]; simp; omega
def word2 (m : Nat) : List Int := [((m : Nat) : Int) % 4294967296, (((m : Nat) : Int) / 4294967296) % 4294967296]
theorem word2_val {m : Nat} (h : m < 18446744073709551616) : val (word2 m) = m := by unfold word2; simp [val]; omega
theorem word2_dg (m : Nat) : Dg (word2 m) := Dg.cons (by omega) (by omega) (Dg.one (by omega) (by omega))
theorem rfloat_eq {b : Nat} (h : Fin64 b) (k : Nat) : cuspref02_Float.f k b = (cuspref02_norm.f k (sgn b) (word2 (manti b)) (expoV b)).bind fun bt => some (bt.1, bt.2.1, bt.2.2) := by
  have hx := expo_le h
  unfold cuspref02_Float.f
  rw [bits_frac b h.1, bits_expo b h.1, bits_one b, sgn_div h.1, w64_of (by omega) (by omega)]
  by_cases h0 : expo b = 0
  · have hm : manti b = frac b := by unfold manti; rw [if_pos h0]
    have he : expoV b = 1 - 1075 := by unfold expoV; rw [if_pos h0]
    rw [if_pos (by omega), hm, he]
    rfl
  · have hm : manti b = frac b + 4503599627370496 := by unfold manti; rw [if_neg h0]
    have he : expoV b = (expo b : Int) - 1075 := by unfold expoV; rw [if_neg h0]
    rw [if_neg (by omega), w64_of (x := (expo b : Int) - 1075) (by omega) (by omega), ← he, hm]
    rfl
theorem rfloat_law {b : Nat} (h : Fin64 b) : Ev (fun k => cuspref02_Float.f k b) (canN (flz b) (-1074)) := by
  have hm := manti_lt b
  have he := expoV_range h
  have hn := rnorm_law (sgn b) (word2 (manti b)) (expoV b) (word2_dg _) (by simp [word2]) (by omega) (by omega)
  rw [word2_val (by omega), show (if sgn b = true then -(manti b : Int) else (manti b : Int)) = floV b from rfl, can_flo h] at hn
  exact Ev.congr (fun k => rfloat_eq h k) (Ev.bind hn (Ev.now _))
theorem mag_law {b : Nat} (h : b < 18446744073709551616) : cuspref01_mag.f b = some ((b % 9223372036854775808 : Nat) : Int) := by
  unfold cuspref01_mag.f cuspref01_Bits.f
  rw [Option.bind_some, bits_abs b h]
theorem risnan_law {b : Nat} (h : b < 18446744073709551616) : cuspref01_IsNaN.f b = some (nanB b) := by
  unfold cuspref01_IsNaN.f
  rw [mag_law h, Option.bind_some, nan_law h]
  congr 1
  rw [decide_eq_decide]; omega
theorem risinf_law {b : Nat} (h : b < 18446744073709551616) : cuspref01_IsInf.f b = some (infB? b) := by
  unfold cuspref01_IsInf.f
  rw [mag_law h, Option.bind_some, inf_law h]
  congr 1
  by_cases hb : b % 9223372036854775808 = 9218868437227405312
  · rw [hb]; rfl
  · rw [beq_eq_false_iff_ne.2 hb, beq_eq_false_iff_ne]; omega
theorem same_law (a : Nat) : cusplaw05_same.f a a = some true := by
  unfold cusplaw05_same.f cuspref01_Same.f cuspref01_Bits.f
  rw [Option.bind_some, Option.bind_some, if_pos rfl]; rfl
end Go.Proofs.YthmeocigliephaaGreatDoor.Big
end
section
namespace Go.Proofs.YthmeocigliephaaGreatDoor.PSv
attribute [local go_sem] f64bits_run f64from_run run_float_some max2_int min2_int max_two min_two max_three min_three max_four min_four
def errW : Option Int → Value
 | none => .nilIface
 | some c => .iface 0 (.int .i64 c)
theorem errW_none : errW none = .nilIface := rfl
theorem errW_some (c : Int) : errW (some c) = .iface 0 (.int .i64 c) := rfl
end Go.Proofs.YthmeocigliephaaGreatDoor.PSv
end
section
namespace Go.Proofs.YthmeocigliephaaGreatDoor.PSv
open Go.Proofs.YthmeocigliephaaGreatDoor.PSu Go.RowKit Go.Proofs.YthmeocigliephaaGreatDoorW.PrintWords Go.Proofs.YthmeocigliephaaGreatDoorW.PrintLast Go.Proofs.YthmeocigliephaaGreatDoorW.PrintMore
attribute [local go_sem] f64bits_run f64from_run run_float_some max2_int min2_int max_two min_two max_three min_three max_four min_four
def cuspref01_Finite.f (a0 : Nat) : Option (Bool) := (cuspref01_mag.f a0).bind fun t101 => (some (decide (t101 < 9218868437227405312)))
theorem cuspref01_Finite.calls (a0 : Nat) (r : Bool) (w : World) (h : cuspref01_Finite.f a0 = some r) :
  Calls Tryz.prog 24 #[.float .f64 a0] w fun e w' => e = .returned (.bool r) ∧ Drawn0 w w' := by
 have H := h
 clear h
 unfold cuspref01_Finite.f at H
 replace H := Option.bind_eq_some_iff.mp H
 obtain ⟨t101, A20, H⟩ := H
 have A2 := asd A20
 clear A20
 obtain rfl := Option.some.inj H
 go_enter Tryz.func24, Tryz.ntmps24
 go_wp2_with (first | ((with_reducible refine gate_callee (f := 62) rfl ?_); refine goesL_ (some 4) rfl rfl Tryz.func62 (by kernel_rfl) rfl #[.float .f64 a0] rfl eqA ?_; (with_reducible refine (cuspref01_mag.calls a0 t101 _ A2.out).mono ?_); rintro e w' ⟨rfl, ⟨nd, rfl⟩⟩; refine ⟨_, rfl, ?_⟩))
 go_ret
 exact ⟨eqB, dn0⟩
end Go.Proofs.YthmeocigliephaaGreatDoor.PSv
end
section
namespace Go.Proofs.YthmeocigliephaaGreatDoor.PSv
open Go.Proofs.YthmeocigliephaaGreatDoor.PSu Go.RowKit Go.Proofs.YthmeocigliephaaGreatDoorW.PrintWords Go.Proofs.YthmeocigliephaaGreatDoorW.PrintLast Go.Proofs.YthmeocigliephaaGreatDoorW.PrintMore
attribute [local go_sem] f64bits_run f64from_run run_float_some max2_int min2_int max_two min_two max_three min_three max_four min_four
def cuspref02_Minus.f (a0_0 : Bool) (l0_1 : List Int) (a0_2 : Int) : Option (Bool × List Int × Int) := if (l0_1.length : Int) = 0 then (some (false, ([] : List Int), 0)) else (some (!a0_0, l0_1, a0_2))
theorem cuspref02_Minus.calls (a0_0 : Bool) (P0_1_ : Nat → Prop) (u9000_ : Value) (l0_1 : List Int) (a0_2 : Int) (r1 : Bool) (r2 : List Int) (r3 : Int) (w0 w : World) (hB : Below w0.heap.size w0 w) (ho0_1 : Kd.R (Kd.int .u32) 83 w w0.heap.size P0_1_ u9000_ l0_1) (h : cuspref02_Minus.f a0_0 l0_1 a0_2 = some (r1, r2, r3)) :
  Calls Tryz.prog 77 #[.agg #[.bool a0_0, u9000_, .int .i64 a0_2]] w fun e w' => ∃ v1_ : Value, e = .returned (.agg #[.bool r1, v1_, .int .i64 r3]) ∧ Kd.R (Kd.int .u32) 83 w' w0.heap.size (fun k_ => (P0_1_ k_ ∨ w.heap.size ≤ k_)) v1_ r2 ∧ Below w0.heap.size w0 w' ∧ Kept w w' (fun k_ => P0_1_ k_) := by
 have hu41 := Tryz.underlying41
 have HO0_1 := asd (show Kd.R (Kd.int .u32) 83 w w0.heap.size (fun k_ => (P0_1_ k_ ∨ w.heap.size ≤ k_)) u9000_ l0_1 from Kd.R_mono ho0_1 (fun k_ hk => (.inl hk)))
 have HK := asd (Kept.refl w (fun k_ => P0_1_ k_))
 have HW0 := asd hB.size
 have HB := asd hB
 clear hB
 have H := h
 clear h
 unfold cuspref02_Minus.f at H
 by_cases c2 : (l0_1.length : Int) = 0
 ·rw [if_pos c2] at H
  have c2b0 := beq_iff_eq.mpr c2
  have c2b1 := bne_eq_false_iff_eq.mpr c2
  clear c2
  simp only [Option.some.injEq, Prod.mk.injEq] at H
  obtain ⟨rfl, rfl, rfl⟩ := H
  obtain ⟨Ao3, co3, eo3⟩ := Kd.R_slice HO0_1.out
  subst eo3
  go_enter Tryz.func77, Tryz.ntmps77
  go_wp2_with (first | ((with_reducible refine gate_dst (N := 1) rfl ?_); refine box_event ?hg (N := 1) ?hd (cs := #[.bool a0_0, .slice Ao3 l0_1.length co3, .int .i64 a0_2]) (t := 41) ?hr ?_; (case hd => rfl); (case hg => rfl); (case hr => first | (go_simp; done) | (go_simp; rfl)); intro gb102 hg w4 hbox hb; have n0_ := asd (Kd.R_below (rUp HO0_1.out) hb); have n1_ := asd (Kept.below (S := (fun k_ => P0_1_ k_)) (by repeat (first | (with_reducible first | exact HK.out | apply Kept.alloc | apply Kept.drewN | apply Kept.drew) | exact HK.out)) hb); have n2_ := asd (below_step hbw hb); have n3_ := asd (hbox); have n4_ := asd ((by rw [hg]; exact (by first | exact HK.out.1 | exact (show Kept w _ (fun k_ => P0_1_ k_) from by repeat (first | (with_reducible first | exact HK.out | apply Kept.alloc | apply Kept.drewN | apply Kept.drew) | exact HK.out)).1) : w.heap.size ≤ gb102)); have n5_ := asd ((by rw [hg]; exact (below_size hbw) : w0.heap.size ≤ gb102)); clear HO0_1; clear HK; clear HB; have HO0_1 := n0_; have HK := n1_; have HB := n2_; have BK102 := n3_; have GW102 := n4_; have GE102 := n5_; clear n0_ n1_ n2_ n3_ n4_ n5_; clear hb hbox hg) | ((with_reducible refine gate_dst (N := 2) rfl ?_); refine box_event ?hg (N := 2) ?hd (cs := #[.bool false, .slice none 0 0, .int .i64 0]) (t := 41) ?hr ?_; (case hd => rfl); (case hg => rfl); (case hr => first | (go_simp; done) | (go_simp; rfl)); intro gb103 hg w5 hbox hb; have n0_ := asd (Kd.R_below (rUp HO0_1.out) hb); have n1_ := asd (blk_below (g := gb102) (o := .cells #[.bool a0_0, .slice Ao3 l0_1.length co3, .int .i64 a0_2] 41 (0, 0)) (blkU BK102.out) hb); have n2_ := asd (Kept.below (S := (fun k_ => P0_1_ k_)) (by repeat (first | (with_reducible first | exact HK.out | apply Kept.alloc | apply Kept.drewN | apply Kept.drew | refine Kept.setCell ?_ (.inr GW102.out) _) | exact HK.out)) hb); have n3_ := asd (below_step hbs hb); have n4_ := asd (hbox); have n5_ := asd ((by rw [hg]; exact (by first | exact HK.out.1 | exact (show Kept w _ (fun k_ => P0_1_ k_) from by repeat (first | (with_reducible first | exact HK.out | apply Kept.alloc | apply Kept.drewN | apply Kept.drew | refine Kept.setCell ?_ (.inr GW102.out) _) | exact HK.out)).1) : w.heap.size ≤ gb103)); have n6_ := asd ((by rw [hg]; exact (below_size hbs) : w0.heap.size ≤ gb103)); have n7_ := asd ((by rw [hg]; exact Nat.ne_of_lt (blk_lt (g := gb102) (o := .cells #[.bool a0_0, .slice Ao3 l0_1.length co3, .int .i64 a0_2] 41 (0, 0)) (blkU BK102.out)) : gb102 ≠ gb103)); have n8_ := asd ((by rw [hg]; exact Nat.ne_of_gt (blk_lt (g := gb102) (o := .cells #[.bool a0_0, .slice Ao3 l0_1.length co3, .int .i64 a0_2] 41 (0, 0)) (blkU BK102.out)) : gb103 ≠ gb102)); clear HO0_1; clear BK102; clear HK; clear HB; have HO0_1 := n0_; have BK102 := n1_; have HK := n2_; have HB := n3_; have BK103 := n4_; have GW103 := n5_; have GE103 := n6_; have NB102_103 := n7_; have NB103_102 := n8_; clear n0_ n1_ n2_ n3_ n4_ n5_ n6_ n7_ n8_; clear hb hbox hg; have hnb6 := NB102_103.out; have hnc6 := NB103_102.out; obtain ⟨hcz7_0, hcz7_1, hcz7_2, hfz7_0, hfz7_1, hfz7_2⟩ := cz3 BK102.out; obtain ⟨hcz8_0, hcz8_1, hcz8_2, hfz8_0, hfz8_1, hfz8_2⟩ := cz3 BK103.out))
  refine bodyPost_ret (results_cell_row rfl _ _ gb103 41 #[.bool false, .slice none 0 0, .int .i64 0] (0, 0) _ rfl (by (with_reducible repeat (first | refine blk_drewN ?_ _ | refine blk_drew ?_ | refine blk_alloc ?_ _)); refine blk_put (cs := #[.bool false, .slice none 0 0, .int .i64 0]) ?_ 2 _ rfl; (with_reducible repeat (first | refine blk_drewN ?_ _ | refine blk_drew ?_ | refine blk_alloc ?_ _)); refine blk_put (cs := #[.bool false, .slice none 0 0, .int .i64 0]) ?_ 1 _ rfl; (with_reducible repeat (first | refine blk_drewN ?_ _ | refine blk_drew ?_ | refine blk_alloc ?_ _)); refine blk_put (cs := #[.bool false, .slice none 0 0, .int .i64 0]) ?_ 0 _ rfl; (with_reducible repeat (first | refine blk_drewN ?_ _ | refine blk_drew ?_ | refine blk_alloc ?_ _)); exact BK103.out) Tryz.underlying41 rfl (by kernel_rfl)) rfl ?_
  exact ⟨_, eqC, by first | exact Kd.R_nil _ _ _ _ _ | exact Kd.N_nil _ _ _ _ _ | exact Kd.V_nil _ _ _ _ _ | exact Kd.Q_nil _ _ _ _ _ | exact Kd.S_nil _ _ _ _ _, hbs, by repeat (first | (with_reducible first | exact HK.out | apply Kept.alloc | apply Kept.drewN | apply Kept.drew | refine Kept.setCell ?_ (.inr GW102.out) _ | refine Kept.setCell ?_ (.inr GW103.out) _) | exact HK.out)⟩
 ·rw [if_neg c2] at H
  have c2b0 := beq_eq_false_iff_ne.mpr c2
  have c2b1 := bne_iff_ne.mpr c2
  have c2b2 : ¬ (l0_1 = []) := fun h_ => c2 (by rw [h_]; rfl)
  simp only [Option.some.injEq, Prod.mk.injEq] at H
  obtain ⟨rfl, rfl, rfl⟩ := H
  obtain ⟨Ao9, co9, eo9⟩ := Kd.R_slice HO0_1.out
  subst eo9
  go_enter Tryz.func77, Tryz.ntmps77
  go_wp2_with (first | ((with_reducible refine gate_dst (N := 1) rfl ?_); refine box_event ?hg (N := 1) ?hd (cs := #[.bool a0_0, .slice Ao9 l0_1.length co9, .int .i64 a0_2]) (t := 41) ?hr ?_; (case hd => rfl); (case hg => rfl); (case hr => first | (go_simp; done) | (go_simp; rfl)); intro gb102 hg w10 hbox hb; have n0_ := asd (Kd.R_below (rUp HO0_1.out) hb); have n1_ := asd (Kept.below (S := (fun k_ => P0_1_ k_)) (by repeat (first | (with_reducible first | exact HK.out | apply Kept.alloc | apply Kept.drewN | apply Kept.drew) | exact HK.out)) hb); have n2_ := asd (below_step hbw hb); have n3_ := asd (hbox); have n4_ := asd ((by rw [hg]; exact (by first | exact HK.out.1 | exact (show Kept w _ (fun k_ => P0_1_ k_) from by repeat (first | (with_reducible first | exact HK.out | apply Kept.alloc | apply Kept.drewN | apply Kept.drew) | exact HK.out)).1) : w.heap.size ≤ gb102)); have n5_ := asd ((by rw [hg]; exact (below_size hbw) : w0.heap.size ≤ gb102)); clear HO0_1; clear HK; clear HB; have HO0_1 := n0_; have HK := n1_; have HB := n2_; have BK102 := n3_; have GW102 := n4_; have GE102 := n5_; clear n0_ n1_ n2_ n3_ n4_ n5_; clear hb hbox hg) | ((with_reducible refine gate_dst (N := 2) rfl ?_); refine box_event ?hg (N := 2) ?hd (cs := #[.bool false, .slice none 0 0, .int .i64 0]) (t := 41) ?hr ?_; (case hd => rfl); (case hg => rfl); (case hr => first | (go_simp; done) | (go_simp; rfl)); intro gb103 hg w11 hbox hb; have n0_ := asd (Kd.R_below (rUp HO0_1.out) hb); have n1_ := asd (blk_below (g := gb102) (o := .cells #[.bool a0_0, .slice Ao9 l0_1.length co9, .int .i64 a0_2] 41 (0, 0)) (blkU BK102.out) hb); have n2_ := asd (Kept.below (S := (fun k_ => P0_1_ k_)) (by repeat (first | (with_reducible first | exact HK.out | apply Kept.alloc | apply Kept.drewN | apply Kept.drew | refine Kept.setCell ?_ (.inr GW102.out) _) | exact HK.out)) hb); have n3_ := asd (below_step hbs hb); have n4_ := asd (hbox); have n5_ := asd ((by rw [hg]; exact (by first | exact HK.out.1 | exact (show Kept w _ (fun k_ => P0_1_ k_) from by repeat (first | (with_reducible first | exact HK.out | apply Kept.alloc | apply Kept.drewN | apply Kept.drew | refine Kept.setCell ?_ (.inr GW102.out) _) | exact HK.out)).1) : w.heap.size ≤ gb103)); have n6_ := asd ((by rw [hg]; exact (below_size hbs) : w0.heap.size ≤ gb103)); have n7_ := asd ((by rw [hg]; exact Nat.ne_of_lt (blk_lt (g := gb102) (o := .cells #[.bool a0_0, .slice Ao9 l0_1.length co9, .int .i64 a0_2] 41 (0, 0)) (blkU BK102.out)) : gb102 ≠ gb103)); have n8_ := asd ((by rw [hg]; exact Nat.ne_of_gt (blk_lt (g := gb102) (o := .cells #[.bool a0_0, .slice Ao9 l0_1.length co9, .int .i64 a0_2] 41 (0, 0)) (blkU BK102.out)) : gb103 ≠ gb102)); clear HO0_1; clear BK102; clear HK; clear HB; have HO0_1 := n0_; have BK102 := n1_; have HK := n2_; have HB := n3_; have BK103 := n4_; have GW103 := n5_; have GE103 := n6_; have NB102_103 := n7_; have NB103_102 := n8_; clear n0_ n1_ n2_ n3_ n4_ n5_ n6_ n7_ n8_; clear hb hbox hg; have hnb12 := NB102_103.out; have hnc12 := NB103_102.out; obtain ⟨hcz13_0, hcz13_1, hcz13_2, hfz13_0, hfz13_1, hfz13_2⟩ := cz3 BK102.out; obtain ⟨hcz14_0, hcz14_1, hcz14_2, hfz14_0, hfz14_1, hfz14_2⟩ := cz3 BK103.out))
  refine bodyPost_ret (results_cell_row rfl _ _ gb103 41 #[.bool (!a0_0), .slice Ao9 l0_1.length co9, .int .i64 a0_2] (0, 0) _ rfl (by (with_reducible repeat (first | refine blk_drewN ?_ _ | refine blk_drew ?_ | refine blk_alloc ?_ _)); refine blk_put (cs := #[.bool (!a0_0), .slice Ao9 l0_1.length co9, .int .i64 0]) ?_ 2 _ rfl; (with_reducible repeat (first | refine blk_drewN ?_ _ | refine blk_drew ?_ | refine blk_alloc ?_ _)); refine blk_put (cs := #[.bool (!a0_0), .slice none 0 0, .int .i64 0]) ?_ 1 _ rfl; (with_reducible repeat (first | refine blk_drewN ?_ _ | refine blk_drew ?_ | refine blk_alloc ?_ _)); refine blk_put (cs := #[.bool false, .slice none 0 0, .int .i64 0]) ?_ 0 _ rfl; (with_reducible repeat (first | refine blk_drewN ?_ _ | refine blk_drew ?_ | refine blk_alloc ?_ _)); exact BK103.out) Tryz.underlying41 rfl (by kernel_rfl)) rfl ?_
  exact ⟨_, eqC, by (with_reducible repeat (first | apply Kd.R_alloc | apply Kd.R_drewN | apply Kd.R_drew)); exact Kd.R_mono (Kd.R_far (p := ⟨gb103, 2, none⟩) (Kd.R_far (p := ⟨gb103, 1, none⟩) (Kd.R_far (p := ⟨gb103, 0, none⟩) (Kd.R_types HO0_1.out BK103.out (by decide)) (fun _ hk => hk.2) (.bool (!a0_0))) (fun _ hk => hk.2) (.slice Ao9 l0_1.length co9)) (fun _ hk => hk.2) (.int .i64 a0_2)) (fun _ hk => hk.1), hbs, by repeat (first | (with_reducible first | exact HK.out | apply Kept.alloc | apply Kept.drewN | apply Kept.drew | refine Kept.setCell ?_ (.inr GW102.out) _ | refine Kept.setCell ?_ (.inr GW103.out) _) | exact HK.out)⟩
def cuspref02_Less.f (a0_0 : Bool) (l0_1 : List Int) (a0_2 : Int) (a1_0 : Bool) (l1_1 : List Int) (a1_2 : Int) : Option (Bool × List Int × Int) := (cuspref02_Minus.f a1_0 l1_1 a1_2).bind fun bt107 => ((cuspref02_Plus.f a0_0 l0_1 a0_2 bt107.1 bt107.2.1 bt107.2.2).bind fun bt112 => (some (bt112.1, bt112.2.1, bt112.2.2)))
theorem cuspref02_Less.calls (a0_0 : Bool) (A0_1 : Option Addr) (c0_1 : Nat) (l0_1 : List Int) (a0_2 : Int) (a1_0 : Bool) (P1_1_ : Nat → Prop) (u9000_ : Value) (l1_1 : List Int) (a1_2 : Int) (r1 : Bool) (r2 : List Int) (r3 : Int) (w0 w : World) (hB : Below w0.heap.size w0 w) (hr0_1 : ∀ W_, Kept w W_ (fun k_ => P1_1_ k_) → Kd.C (Kd.int .u32) W_ A0_1 l0_1.length l0_1) (hc0_1 : l0_1.length ≤ c0_1) (ho1_1 : Kd.R (Kd.int .u32) 83 w w0.heap.size P1_1_ u9000_ l1_1) (h : cuspref02_Less.f a0_0 l0_1 a0_2 a1_0 l1_1 a1_2 = some (r1, r2, r3)) :
  Calls Tryz.prog 31 #[.agg #[.bool a0_0, .slice A0_1 l0_1.length c0_1, .int .i64 a0_2], .agg #[.bool a1_0, u9000_, .int .i64 a1_2]] w fun e w' => ∃ v1_ : Value, e = .returned (.agg #[.bool r1, v1_, .int .i64 r3]) ∧ Kd.R (Kd.int .u32) 83 w' w0.heap.size (fun k_ => (P1_1_ k_ ∨ w.heap.size ≤ k_)) v1_ r2 ∧ Below w0.heap.size w0 w' ∧ Kept w w' (fun k_ => P1_1_ k_) := by
 have hu41 := Tryz.underlying41
 have HR0_1 := asd hr0_1
 have HC0_1 := asd hc0_1
 clear hr0_1 hc0_1
 have HO1_1 := asd (show Kd.R (Kd.int .u32) 83 w w0.heap.size (fun k_ => (P1_1_ k_ ∨ w.heap.size ≤ k_)) u9000_ l1_1 from Kd.R_mono ho1_1 (fun k_ hk => (.inl hk)))
 have HK := asd (Kept.refl w (fun k_ => P1_1_ k_))
 have HW0 := asd hB.size
 have HB := asd hB
 clear hB
 have H := h
 clear h
 unfold cuspref02_Less.f at H
 replace H := Option.bind_eq_some_iff.mp H
 obtain ⟨⟨t107, t108, t111⟩, A30, H⟩ := H
 replace H : ((cuspref02_Plus.f a0_0 l0_1 a0_2 t107 t108 t111).bind fun bt112 => (some (bt112.1, bt112.2.1, bt112.2.2))) = some (r1, r2, r3) := H
 have A3 := asd A30
 clear A30
 replace H := Option.bind_eq_some_iff.mp H
 obtain ⟨⟨t112, t113, t116⟩, A40, H⟩ := H
 replace H : (some (t112, t113, t116)) = some (r1, r2, r3) := H
 have A4 := asd A40
 clear A40
 simp only [Option.some.injEq, Prod.mk.injEq] at H
 obtain ⟨rfl, rfl, rfl⟩ := H
 go_enter Tryz.func31, Tryz.ntmps31
 try go_wp2_with (first | ((with_reducible refine gate_dst (N := 2) rfl ?_); refine box_event ?hg (N := 2) ?hd (cs := #[.bool a0_0, .slice A0_1 l0_1.length c0_1, .int .i64 a0_2]) (t := 41) ?hr ?_; (case hd => rfl); (case hg => rfl); (case hr => first | (go_simp; done) | (go_simp; rfl)); intro gb104 hg w5 hbox hb; have n0_ := asd (Kd.R_below (rUp HO1_1.out) hb); have n1_ := asd (Kept.below (S := (fun k_ => P1_1_ k_)) (by repeat (first | (with_reducible first | exact HK.out | apply Kept.alloc | apply Kept.drewN | apply Kept.drew) | exact HK.out)) hb); have n2_ := asd (below_step hbw hb); have n3_ := asd (hbox); have n4_ := asd ((by rw [hg]; exact (by first | exact HK.out.1 | exact (show Kept w _ (fun k_ => P1_1_ k_) from by repeat (first | (with_reducible first | exact HK.out | apply Kept.alloc | apply Kept.drewN | apply Kept.drew) | exact HK.out)).1) : w.heap.size ≤ gb104)); have n5_ := asd ((by rw [hg]; exact (below_size hbw) : w0.heap.size ≤ gb104)); clear HO1_1; clear HK; clear HB; have HO1_1 := n0_; have HK := n1_; have HB := n2_; have BK104 := n3_; have GW104 := n4_; have GE104 := n5_; clear n0_ n1_ n2_ n3_ n4_ n5_; clear hb hbox hg; obtain ⟨Ao6, co6, eo6⟩ := Kd.R_slice HO1_1.out; subst eo6) | ((with_reducible refine gate_dst (N := 3) rfl ?_); refine box_event ?hg (N := 3) ?hd (cs := #[.bool a1_0, .slice Ao6 l1_1.length co6, .int .i64 a1_2]) (t := 41) ?hr ?_; (case hd => rfl); (case hg => rfl); (case hr => first | (go_simp; done) | (go_simp; rfl)); intro gb105 hg w7 hbox hb; have n0_ := asd (Kd.R_below (rUp HO1_1.out) hb); have n1_ := asd (blk_below (g := gb104) (o := .cells #[.bool a0_0, .slice A0_1 l0_1.length c0_1, .int .i64 a0_2] 41 (0, 0)) (blkU BK104.out) hb); have n2_ := asd (Kept.below (S := (fun k_ => P1_1_ k_)) (by repeat (first | (with_reducible first | exact HK.out | apply Kept.alloc | apply Kept.drewN | apply Kept.drew | refine Kept.setCell ?_ (.inr GW104.out) _) | exact HK.out)) hb); have n3_ := asd (below_step hbs hb); have n4_ := asd (hbox); have n5_ := asd ((by rw [hg]; exact (by first | exact HK.out.1 | exact (show Kept w _ (fun k_ => P1_1_ k_) from by repeat (first | (with_reducible first | exact HK.out | apply Kept.alloc | apply Kept.drewN | apply Kept.drew | refine Kept.setCell ?_ (.inr GW104.out) _) | exact HK.out)).1) : w.heap.size ≤ gb105)); have n6_ := asd ((by rw [hg]; exact (below_size hbs) : w0.heap.size ≤ gb105)); have n7_ := asd ((by rw [hg]; exact Nat.ne_of_lt (blk_lt (g := gb104) (o := .cells #[.bool a0_0, .slice A0_1 l0_1.length c0_1, .int .i64 a0_2] 41 (0, 0)) (blkU BK104.out)) : gb104 ≠ gb105)); have n8_ := asd ((by rw [hg]; exact Nat.ne_of_gt (blk_lt (g := gb104) (o := .cells #[.bool a0_0, .slice A0_1 l0_1.length c0_1, .int .i64 a0_2] 41 (0, 0)) (blkU BK104.out)) : gb105 ≠ gb104)); clear HO1_1; clear BK104; clear HK; clear HB; have HO1_1 := n0_; have BK104 := n1_; have HK := n2_; have HB := n3_; have BK105 := n4_; have GW105 := n5_; have GE105 := n6_; have NB104_105 := n7_; have NB105_104 := n8_; clear n0_ n1_ n2_ n3_ n4_ n5_ n6_ n7_ n8_; clear hb hbox hg) | ((with_reducible refine gate_dst (N := 4) rfl ?_); refine box_event ?hg (N := 4) ?hd (cs := #[.bool false, .slice none 0 0, .int .i64 0]) (t := 41) ?hr ?_; (case hd => rfl); (case hg => rfl); (case hr => first | (go_simp; done) | (go_simp; rfl)); intro gb106 hg w8 hbox hb; have n0_ := asd (Kd.R_below (rUp HO1_1.out) hb); have n1_ := asd (blk_below (g := gb104) (o := .cells #[.bool a0_0, .slice A0_1 l0_1.length c0_1, .int .i64 a0_2] 41 (0, 0)) (blkU BK104.out) hb); have n2_ := asd (blk_below (g := gb105) (o := .cells #[.bool a1_0, .slice Ao6 l1_1.length co6, .int .i64 a1_2] 41 (0, 0)) (blkU BK105.out) hb); have n3_ := asd (Kept.below (S := (fun k_ => P1_1_ k_)) (by repeat (first | (with_reducible first | exact HK.out | apply Kept.alloc | apply Kept.drewN | apply Kept.drew | refine Kept.setCell ?_ (.inr GW104.out) _ | refine Kept.setCell ?_ (.inr GW105.out) _) | exact HK.out)) hb); have n4_ := asd (below_step hbs hb); have n5_ := asd (hbox); have n6_ := asd ((by rw [hg]; exact (by first | exact HK.out.1 | exact (show Kept w _ (fun k_ => P1_1_ k_) from by repeat (first | (with_reducible first | exact HK.out | apply Kept.alloc | apply Kept.drewN | apply Kept.drew | refine Kept.setCell ?_ (.inr GW104.out) _ | refine Kept.setCell ?_ (.inr GW105.out) _) | exact HK.out)).1) : w.heap.size ≤ gb106)); have n7_ := asd ((by rw [hg]; exact (below_size hbs) : w0.heap.size ≤ gb106)); have n8_ := asd ((by rw [hg]; exact Nat.ne_of_lt (blk_lt (g := gb104) (o := .cells #[.bool a0_0, .slice A0_1 l0_1.length c0_1, .int .i64 a0_2] 41 (0, 0)) (blkU BK104.out)) : gb104 ≠ gb106)); have n9_ := asd ((by rw [hg]; exact Nat.ne_of_gt (blk_lt (g := gb104) (o := .cells #[.bool a0_0, .slice A0_1 l0_1.length c0_1, .int .i64 a0_2] 41 (0, 0)) (blkU BK104.out)) : gb106 ≠ gb104)); have n10_ := asd ((by rw [hg]; exact Nat.ne_of_lt (blk_lt (g := gb105) (o := .cells #[.bool a1_0, .slice Ao6 l1_1.length co6, .int .i64 a1_2] 41 (0, 0)) (blkU BK105.out)) : gb105 ≠ gb106)); have n11_ := asd ((by rw [hg]; exact Nat.ne_of_gt (blk_lt (g := gb105) (o := .cells #[.bool a1_0, .slice Ao6 l1_1.length co6, .int .i64 a1_2] 41 (0, 0)) (blkU BK105.out)) : gb106 ≠ gb105)); clear HO1_1; clear BK104; clear BK105; clear HK; clear HB; have HO1_1 := n0_; have BK104 := n1_; have BK105 := n2_; have HK := n3_; have HB := n4_; have BK106 := n5_; have GW106 := n6_; have GE106 := n7_; have NB104_106 := n8_; have NB106_104 := n9_; have NB105_106 := n10_; have NB106_105 := n11_; clear n0_ n1_ n2_ n3_ n4_ n5_ n6_ n7_ n8_ n9_ n10_ n11_; clear hb hbox hg))
 have n0_ := asd (Kd.R_drew HO1_1.out)
 have n1_ := asd (blk_drew BK104.out)
 have n2_ := asd (blk_drew BK105.out)
 have n3_ := asd (blk_drew BK106.out)
 have n4_ := asd (Kept.drew HK.out)
 have n5_ := asd (below_drew1 HB.out)
 clear HO1_1
 clear BK104
 clear BK105
 clear BK106
 clear HK
 clear HB
 have HO1_1 := n0_
 have BK104 := n1_
 have BK105 := n2_
 have BK106 := n3_
 have HK := n4_
 have HB := n5_
 clear n0_ n1_ n2_ n3_ n4_ n5_
 refine start_ (n := 5) (S := fun w' => w'.cell? ⟨gb104, 0, none⟩ = some (.bool a0_0) ∧ w'.cell? ⟨gb104, 1, none⟩ = some (.slice A0_1 l0_1.length c0_1) ∧ w'.cell? ⟨gb104, 2, none⟩ = some (.int .i64 a0_2) ∧ w'.cell? ⟨gb105, 0, none⟩ = some (.bool a1_0) ∧ w'.cell? ⟨gb105, 1, none⟩ = some (.slice Ao6 l1_1.length co6) ∧ w'.cell? ⟨gb105, 2, none⟩ = some (.int .i64 a1_2)) (ds := []) #[false, false, false, false, false] (by kernel_rfl) rfl rfl ⟨(blk_cell BK104.out 0).trans rfl, (blk_cell BK104.out 1).trans rfl, (blk_cell BK104.out 2).trans rfl, (blk_cell BK105.out 0).trans rfl, (blk_cell BK105.out 1).trans rfl, (blk_cell BK105.out 2).trans rfl⟩ (fun hHeld => ?_)
 generalize w8.drew = w9 at HO1_1 BK104 BK105 BK106 HK HB hHeld ⊢
 refine take_ (i := 0) (N := some 5) (v := ?_) (a' := ?_) #[true, false, false, false, false] rfl rfl (by kernel_rfl) (fun _ _ _ h => h) (Or.inl ⟨by rfl, ?_⟩) hHeld ?_ ?_
 rotate_left
 ·rintro w' ⟨s0, s1, s2, s3, s4, s5⟩
  go_simp
  with_reducible rfl
 rotate_left
 ·simp only [Act.put, List.setIfInBounds_toArray, List.set_cons_zero, List.set_cons_succ, i64_w, i32_w]
  rfl
 refine take_ (i := 1) (N := some 6) (v := ?_) (a' := ?_) #[true, true, false, false, false] rfl rfl (by kernel_rfl) (fun _ _ _ h => h) (Or.inl ⟨by rfl, ?_⟩) hHeld ?_ ?_
 rotate_left
 ·rintro w' ⟨s0, s1, s2, s3, s4, s5⟩
  go_simp
  with_reducible rfl
 rotate_left
 ·simp only [Act.put, List.setIfInBounds_toArray, List.set_cons_zero, List.set_cons_succ, i64_w, i32_w]
  rfl
 refine one_ (i := 2) (N := some 7) #[true, true, true, false, false] rfl rfl (by kernel_rfl) (by decide) (fun K hK => ?_)
 refine goes_ Tryz.func77 (by kernel_rfl) rfl #[.agg #[.bool a1_0, .slice Ao6 l1_1.length co6, .int .i64 a1_2]] (by rfl) rfl rfl eqA ?_
 with_reducible refine (cuspref02_Minus.calls a1_0 (fun k_ => some k_ = (.slice Ao6 l1_1.length co6 : Value).ownBlock) (.slice Ao6 l1_1.length co6) l1_1 a1_2 t107 t108 t111 w0 _ ?side1 ?side2 A3.out).mono ?_
 (case side1 => repeat (first | (with_reducible first | exact HB.out | apply below_alloc | apply pw_below_drewN | apply below_drew1 | refine below_set ?_ GE104.out | refine below_set ?_ GE105.out | refine below_set ?_ GE106.out) | exact HB.out))
 (case side2 => exact Kd.R_tight rfl HO1_1.out)
 rintro e w10 ⟨v109, rfl, ho0, hb, hkp⟩
 refine ⟨_, rfl, ?_⟩
 have n0_ := asd (blk_kept (blkU BK104.out) hkp (fun hs_ => (fun e_ => (Kd.R_ne HO1_1.out BK104.out (by decide)) e_) hs_))
 have n1_ := asd (blk_kept (blkU BK105.out) hkp (fun hs_ => (fun e_ => (Kd.R_ne HO1_1.out BK105.out (by decide)) e_) hs_))
 have n2_ := asd (blk_kept (blkU BK106.out) hkp (fun hs_ => (fun e_ => (Kd.R_ne HO1_1.out BK106.out (by decide)) e_) hs_))
 have n3_ := asd (Kd.R_mono (ok' := fun k_ => (P1_1_ k_ ∨ w.heap.size ≤ k_)) ho0 (fun k_ hk_ => Or.elim hk_ (fun hs_ => (HO1_1.out.1 k_ (hs_).symm)) (fun hn_ => (.inr (Nat.le_trans (by first | exact HK.out.1 | exact (show Kept w _ (fun k_ => P1_1_ k_) from by repeat (first | (with_reducible first | exact HK.out | apply Kept.alloc | apply Kept.drewN | apply Kept.drew | refine Kept.setCell ?_ (.inr GW104.out) _ | refine Kept.setCell ?_ (.inr GW105.out) _ | refine Kept.setCell ?_ (.inr GW106.out) _) | exact HK.out)).1) hn_)))))
 have n4_ := asd (Kept.then_ (S := (fun k_ => P1_1_ k_)) (by repeat (first | (with_reducible first | exact HK.out | apply Kept.alloc | apply Kept.drewN | apply Kept.drew | refine Kept.setCell ?_ (.inr GW104.out) _ | refine Kept.setCell ?_ (.inr GW105.out) _ | refine Kept.setCell ?_ (.inr GW106.out) _) | exact HK.out)) hkp (fun k_ hs_ => (fun e_ => (HO1_1.out.1 k_ e_.symm)) hs_))
 have n5_ := asd (hb)
 clear BK104
 clear BK105
 clear BK106
 clear HK
 clear HB
 clear HO1_1
 have BK104 := n0_
 have BK105 := n1_
 have BK106 := n2_
 have HO110 := n3_
 have HK := n4_
 have HB := n5_
 clear n0_ n1_ n2_ n3_ n4_ n5_
 (try clear hb)
 (try clear hkp)
 (try clear ho0)
 obtain ⟨Ao11, co11, eo11⟩ := Kd.R_slice HO110.out
 (first | subst eo11 | (injection eo11 with f1_ f2_ f3_; have f4_ := f1_.symm; have f5_ := f3_.symm; clear f1_ f2_ f3_; subst f4_; subst f5_))
 refine hK.out _ _ ⟨(blk_cell BK104.out 0).trans rfl, (blk_cell BK104.out 1).trans rfl, (blk_cell BK104.out 2).trans rfl, (blk_cell BK105.out 0).trans rfl, (blk_cell BK105.out 1).trans rfl, (blk_cell BK105.out 2).trans rfl⟩ (fun hHeld => ?_)
 clear hK K
 refine norm_ (a' := ?_) ?_ ?_
 rotate_left
 ·show Act.put _ (some 7) _ = _
  simp only [Act.put, List.setIfInBounds_toArray, List.set_cons_zero, List.set_cons_succ, i64_w, i32_w]
  rfl
 refine one_ (i := 3) (N := some 8) #[true, true, true, true, false] rfl rfl (by kernel_rfl) (by decide) (fun K hK => ?_)
 refine goes_ Tryz.func25 (by kernel_rfl) rfl #[.agg #[.bool a0_0, .slice A0_1 l0_1.length c0_1, .int .i64 a0_2], .agg #[.bool t107, .slice Ao11 t108.length co11, .int .i64 t111]] (by rfl) rfl rfl eqA ?_
 with_reducible refine (cuspref02_Plus.calls a0_0 _ _ l0_1 a0_2 t107 _ _ t108 t111 t112 t113 t116 _ ?side1 ?side2 ?side3 ?side4 A4.out).mono ?_
 (case side1 => exact Kd.C_kept_now HR0_1.out (by repeat (first | (with_reducible first | exact HK.out | apply Kept.alloc | apply Kept.drewN | apply Kept.drew | refine Kept.setCell ?_ (.inr GW104.out) _ | refine Kept.setCell ?_ (.inr GW105.out) _ | refine Kept.setCell ?_ (.inr GW106.out) _) | exact HK.out)))
 (case side2 => exact HC0_1.out)
 (case side3 => repeat (first | exact (Kd.R_reads' HO110.out).2.2 | (with_reducible refine Kd.C_alloc ?_ _) | (with_reducible refine Kd.C_drewN ?_ _) | (with_reducible refine Kd.C_drew ?_)))
 (case side4 => exact (Kd.R_reads' HO110.out).2.1)
 rintro e w12 ⟨v114, rfl, ho0, hb⟩
 refine ⟨_, rfl, ?_⟩
 have n0_ := asd (Kd.R_elder' (rUp HO110.out) (Kd.R_base ho0) hb)
 have n1_ := asd (Kd.R_lower (Kd.R_new' (Kd.R_newM (M := fun k_ => (P1_1_ k_ ∨ w.heap.size ≤ k_)) ho0 (by first | exact HK.out.1 | exact (show Kept w _ (fun k_ => P1_1_ k_) from by repeat (first | (with_reducible first | exact HK.out | apply Kept.alloc | apply Kept.drewN | apply Kept.drew | refine Kept.setCell ?_ (.inr GW104.out) _ | refine Kept.setCell ?_ (.inr GW105.out) _ | refine Kept.setCell ?_ (.inr GW106.out) _) | exact HK.out)).1) (fun k_ h_ => .inr h_)) (Kd.R_lt (rUp HO110.out))) (below_size hbs))
 have n2_ := asd (blk_below (g := gb104) (o := .cells #[.bool a0_0, .slice A0_1 l0_1.length c0_1, .int .i64 a0_2] 41 (0, 0)) (blkU BK104.out) hb)
 have n3_ := asd (blk_below (g := gb105) (o := .cells #[.bool a1_0, .slice Ao6 l1_1.length co6, .int .i64 a1_2] 41 (0, 0)) (blkU BK105.out) hb)
 have n4_ := asd (blk_below (g := gb106) (o := .cells #[.bool false, .slice none 0 0, .int .i64 0] 41 (0, 0)) (blkU BK106.out) hb)
 have n5_ := asd (Kept.below (S := (fun k_ => P1_1_ k_)) (by repeat (first | (with_reducible first | exact HK.out | apply Kept.alloc | apply Kept.drewN | apply Kept.drew | refine Kept.setCell ?_ (.inr GW104.out) _ | refine Kept.setCell ?_ (.inr GW105.out) _ | refine Kept.setCell ?_ (.inr GW106.out) _) | exact HK.out)) hb)
 have n6_ := asd (below_step hbs hb)
 clear HO110
 clear BK104
 clear BK105
 clear BK106
 clear HK
 clear HB
 have HO110 := n0_
 have HO115 := n1_
 have BK104 := n2_
 have BK105 := n3_
 have BK106 := n4_
 have HK := n5_
 have HB := n6_
 clear n0_ n1_ n2_ n3_ n4_ n5_ n6_
 (try clear hb)
 (try clear hb2)
 (try clear hk)
 (try clear hi)
 (try clear ho0)
 obtain ⟨Ao14, co14, eo14⟩ := Kd.R_slice HO115.out
 (first | subst eo14 | (injection eo14 with f1_ f2_ f3_; have f4_ := f1_.symm; have f5_ := f3_.symm; clear f1_ f2_ f3_; subst f4_; subst f5_))
 refine hK.out _ _ ⟨(blk_cell BK104.out 0).trans rfl, (blk_cell BK104.out 1).trans rfl, (blk_cell BK104.out 2).trans rfl, (blk_cell BK105.out 0).trans rfl, (blk_cell BK105.out 1).trans rfl, (blk_cell BK105.out 2).trans rfl⟩ (fun hHeld => ?_)
 clear hK K
 refine norm_ (a' := ?_) ?_ ?_
 rotate_left
 ·show Act.put _ (some 8) _ = _
  simp only [Act.put, List.setIfInBounds_toArray, List.set_cons_zero, List.set_cons_succ, i64_w, i32_w]
  rfl
 refine one_ (i := 4) (N := none) #[true, true, true, true, true] rfl rfl (by kernel_rfl) (by decide) (fun K hK => ?_)
 have hs13 : w12.cell? ⟨gb106, 0, none⟩ = some (.bool false) := (blk_cell BK106.out 0).trans rfl
 have hfs13 := blk_frozen BK106.out 0
 have hns13_0 := NB104_106.out
 have hns13_1 := NB105_106.out
 have hms13_0 := NB106_104.out
 have hms13_1 := NB106_105.out
 have hs15 : w12.cell? ⟨gb106, 1, none⟩ = some (.slice none 0 0) := (blk_cell BK106.out 1).trans rfl
 have hfs15 := blk_frozen BK106.out 1
 have hns15_0 := NB104_106.out
 have hns15_1 := NB105_106.out
 have hms15_0 := NB106_104.out
 have hms15_1 := NB106_105.out
 have hs16 : w12.cell? ⟨gb106, 2, none⟩ = some (.int .i64 0) := (blk_cell BK106.out 2).trans rfl
 have hfs16 := blk_frozen BK106.out 2
 have hns16_0 := NB104_106.out
 have hns16_1 := NB105_106.out
 have hms16_0 := NB106_104.out
 have hms16_1 := NB106_105.out
 refine skip_ (w1 := ?_) (by rfl) rfl ?_ ?_
 rotate_left
 ·go_simp
  rfl
 refine hK.out _ _ ⟨((cell_far (p := ⟨gb106, _, none⟩) NB104_106.out _).trans (((cell_far (p := ⟨gb106, _, none⟩) NB104_106.out _).trans (((cell_far (p := ⟨gb106, _, none⟩) NB104_106.out _).trans (hHeld.1)))))), ((cell_far (p := ⟨gb106, _, none⟩) NB104_106.out _).trans (((cell_far (p := ⟨gb106, _, none⟩) NB104_106.out _).trans (((cell_far (p := ⟨gb106, _, none⟩) NB104_106.out _).trans (hHeld.2.1)))))), ((cell_far (p := ⟨gb106, _, none⟩) NB104_106.out _).trans (((cell_far (p := ⟨gb106, _, none⟩) NB104_106.out _).trans (((cell_far (p := ⟨gb106, _, none⟩) NB104_106.out _).trans (hHeld.2.2.1)))))), ((cell_far (p := ⟨gb106, _, none⟩) NB105_106.out _).trans (((cell_far (p := ⟨gb106, _, none⟩) NB105_106.out _).trans (((cell_far (p := ⟨gb106, _, none⟩) NB105_106.out _).trans (hHeld.2.2.2.1)))))), ((cell_far (p := ⟨gb106, _, none⟩) NB105_106.out _).trans (((cell_far (p := ⟨gb106, _, none⟩) NB105_106.out _).trans (((cell_far (p := ⟨gb106, _, none⟩) NB105_106.out _).trans (hHeld.2.2.2.2.1)))))), ((cell_far (p := ⟨gb106, _, none⟩) NB105_106.out _).trans (((cell_far (p := ⟨gb106, _, none⟩) NB105_106.out _).trans (((cell_far (p := ⟨gb106, _, none⟩) NB105_106.out _).trans (hHeld.2.2.2.2.2))))))⟩ (fun hHeld => ?_)
 clear hK K
 refine done_ (by kernel_rfl) ?_
 try go_wp2
 refine bodyPost_ret (results_cell_row rfl _ _ gb106 41 #[.bool t112, .slice Ao14 t113.length co14, .int .i64 t116] (0, 0) _ rfl (by (with_reducible repeat (first | refine blk_drewN ?_ _ | refine blk_drew ?_ | refine blk_alloc ?_ _)); refine blk_put (cs := #[.bool t112, .slice Ao14 t113.length co14, .int .i64 0]) ?_ 2 _ rfl; (with_reducible repeat (first | refine blk_drewN ?_ _ | refine blk_drew ?_ | refine blk_alloc ?_ _)); refine blk_put (cs := #[.bool t112, .slice none 0 0, .int .i64 0]) ?_ 1 _ rfl; (with_reducible repeat (first | refine blk_drewN ?_ _ | refine blk_drew ?_ | refine blk_alloc ?_ _)); refine blk_put (cs := #[.bool false, .slice none 0 0, .int .i64 0]) ?_ 0 _ rfl; (with_reducible repeat (first | refine blk_drewN ?_ _ | refine blk_drew ?_ | refine blk_alloc ?_ _)); exact BK106.out) Tryz.underlying41 rfl (by kernel_rfl)) rfl ?_
 exact ⟨_, eqC, by (with_reducible repeat (first | apply Kd.R_alloc | apply Kd.R_drewN | apply Kd.R_drew)); exact Kd.R_mono (Kd.R_far (p := ⟨gb106, 2, none⟩) (Kd.R_far (p := ⟨gb106, 1, none⟩) (Kd.R_far (p := ⟨gb106, 0, none⟩) (Kd.R_types HO115.out BK106.out (by decide)) (fun _ hk => hk.2) (.bool t112)) (fun _ hk => hk.2) (.slice Ao14 t113.length co14)) (fun _ hk => hk.2) (.int .i64 t116)) (fun _ hk => hk.1.1.1), hbs, by repeat (first | (with_reducible first | exact HK.out | apply Kept.alloc | apply Kept.drewN | apply Kept.drew | refine Kept.setCell ?_ (.inr GW104.out) _ | refine Kept.setCell ?_ (.inr GW105.out) _ | refine Kept.setCell ?_ (.inr GW106.out) _) | exact HK.out)⟩
end Go.Proofs.YthmeocigliephaaGreatDoor.PSv
end
section
namespace Go.Proofs.YthmeocigliephaaGreatDoor.PSv
open Go.Proofs.YthmeocigliephaaGreatDoor.PSu Go.RowKit Go.Proofs.YthmeocigliephaaGreatDoorW.PrintWords Go.Proofs.YthmeocigliephaaGreatDoorW.PrintLast Go.Proofs.YthmeocigliephaaGreatDoorW.PrintMore
attribute [local go_sem] f64bits_run f64from_run run_float_some max2_int min2_int max_two min_two max_three min_three max_four min_four
def cuspref01_Not.f  : Option (Nat) := (cuspref01_Of.f 9221120237041090560).bind fun t117 => (some t117)
end Go.Proofs.YthmeocigliephaaGreatDoor.PSv
end
section
namespace Go.Proofs.YthmeocigliephaaGreatDoor.PSv
open Go.Proofs.YthmeocigliephaaGreatDoor.PSu Go.RowKit Go.Proofs.YthmeocigliephaaGreatDoorW.PrintWords Go.Proofs.YthmeocigliephaaGreatDoorW.PrintLast Go.Proofs.YthmeocigliephaaGreatDoorW.PrintMore
attribute [local go_sem] f64bits_run f64from_run run_float_some max2_int min2_int max_two min_two max_three min_three max_four min_four
def cuspref03_Sum0.f (a0 : Bool) (a1 : Bool) (a2 : Int) : Option (Nat) := if a0 = true then (if a1 = true then ((cuspref01_Nought.f true).bind fun t118 => (some t118)) else (if a2 = 1 then ((cuspref01_Nought.f true).bind fun t119 => (some t119)) else ((cuspref01_Nought.f false).bind fun t120 => (some t120)))) else (if a2 = 1 then ((cuspref01_Nought.f a1).bind fun t121 => (some t121)) else ((cuspref01_Nought.f false).bind fun t122 => (some t122)))
def cuspref03_sign.f (a0 : Nat) : Option (Bool) := (cuspref01_Neg.f a0).bind fun t123 => (some t123)
mutual
def cuspref03_Add.j0 : Nat → Nat → Nat → Int → Bool → Option (Nat)
 | 0, _, _, _, _ => none
 | k + 1, x0, x1, x2, x7 => if x7 = true then ((cuspref01_Not.f).bind fun t127 => (some t127)) else ((cuspref01_IsInf.f x0).bind fun t128 => (if t128 = true then ((cuspref01_IsInf.f x1).bind fun t129 => (cuspref03_Add.j1 k x0 x1 x2 t129)) else (cuspref03_Add.j1 k x0 x1 x2 false)))
def cuspref03_Add.j1 : Nat → Nat → Nat → Int → Bool → Option (Nat)
 | 0, _, _, _, _ => none
 | k + 1, x0, x1, x2, x20 => if x20 = true then ((cuspref01_Neg.f x0).bind fun t130 => ((cuspref01_Neg.f x1).bind fun t131 => (if (t130 != t131) = true then ((cuspref01_Not.f).bind fun t132 => (some t132)) else (some x0)))) else ((cuspref01_IsInf.f x0).bind fun t133 => (if t133 = true then (some x0) else ((cuspref01_IsInf.f x1).bind fun t134 => (if t134 = true then (some x1) else ((cuspref02_Float.f k x0).bind fun bt135 => ((cuspref02_Float.f k x1).bind fun bt140 => ((cuspref02_Plus.f bt135.1 bt135.2.1 bt135.2.2 bt140.1 bt140.2.1 bt140.2.2).bind fun bt145 => ((cuspref03_sign.f x0).bind fun t150 => ((cuspref03_sign.f x1).bind fun t151 => ((cuspref03_Sum0.f t150 t151 x2).bind fun t152 => ((cuspref03_R.f bt145.1 bt145.2.1 bt145.2.2 x2 t152).bind fun t153 => (some t153))))))))))))
end
def cuspref03_Add.f (k : Nat) (a0 : Nat) (a1 : Nat) (a2 : Int) : Option (Nat) := (cuspref03_Valid.f a2).bind fun t124 => (if t124 = 0 then ((cuspref01_IsNaN.f a0).bind fun t125 => (if t125 = true then (cuspref03_Add.j0 k a0 a1 a2 true) else ((cuspref01_IsNaN.f a1).bind fun t126 => (cuspref03_Add.j0 k a0 a1 a2 t126)))) else (cuspref03_Add.j0 k a0 a1 a2 true))
def cuspref05_add.f (k : Nat) (a0 : Nat) (a1 : Nat) : Option (Nat) := (cuspref03_Add.f k a0 a1 2).bind fun t154 => (some t154)
def cuspref05_Two.f (k : Nat) (a0 : Nat) (a1 : Nat) : Option (Nat × Nat) := (cuspref05_add.f k a0 a1).bind fun t155 => ((cuspref01_Finite.f t155).bind fun t156 => (if t156 = true then ((cuspref02_Float.f k a0).bind fun bt157 => ((cuspref02_Float.f k a1).bind fun bt162 => ((cuspref02_Plus.f bt157.1 bt157.2.1 bt157.2.2 bt162.1 bt162.2.1 bt162.2.2).bind fun bt167 => ((cuspref02_Float.f k t155).bind fun bt172 => ((cuspref02_Less.f bt167.1 bt167.2.1 bt167.2.2 bt172.1 bt172.2.1 bt172.2.2).bind fun bt177 => ((cuspref03_R.f bt177.1 bt177.2.1 bt177.2.2 2 (0 : Nat)).bind fun t182 => (some (t155, t182)))))))) else (some (t155, (0 : Nat)))))
def cusplaw05_SumsTwo.f (k : Nat) (a0 : Nat) (a1 : Nat) : Option (Bool) := (sums_Two.f k a0 a1).bind fun bt183 => ((cuspref05_Two.f k a0 a1).bind fun bt185 => ((cusplaw05_same.f bt183.1 bt185.1).bind fun t187 => (if t187 = true then ((cusplaw05_same.f bt183.2 bt185.2).bind fun t188 => (if t188 = true then ((cusplaw05_sure.f).bind fun t189 => (some t189)) else (some false))) else (some false))))
end Go.Proofs.YthmeocigliephaaGreatDoor.PSv
end
section
namespace Go.Proofs.YthmeocigliephaaGreatDoor.Big
open Go.Proofs.YthmeocigliephaaGreatDoor.PSv Go.Proofs.YthmeocigliephaaGreatDoor.PSu Go.Proofs.YthmeocigliephaaGreatDoor.Plain Ieee
theorem rfinite_law {b : Nat} (h : b < 18446744073709551616) : cuspref01_Finite.f b = some (decide (Fin64 b)) := by
  unfold cuspref01_Finite.f
  rw [mag_law h, Option.bind_some]
  have hk : (((b % 9223372036854775808 : Nat) : Int) < 9218868437227405312) ↔ Fin64 b := by
    unfold Fin64
    constructor
    · intro h2; exact ⟨h, by omega⟩
    · intro h2; have := h2.2; omega
  exact congrArg some (decide_eq_decide.2 hk)
theorem rminus_law (y : Int) : cuspref02_Minus.f (canN y (-1074)).1 (canN y (-1074)).2.1 (canN y (-1074)).2.2 = some (canN (-y) (-1074)) := by
  unfold cuspref02_Minus.f
  rw [neg_can]
  by_cases h : y = 0
  · rw [if_pos (by have := (can_length (e := -1074)).2 h; omega), if_pos h]
  · rw [if_neg (fun h' => h ((can_length (e := -1074)).1 (by omega))), if_neg h]
theorem rless_can {x y : Int} (hx : bl x.natAbs ≤ 900000) (hy : bl y.natAbs ≤ 900000) : cuspref02_Less.f (canN x (-1074)).1 (canN x (-1074)).2.1 (canN x (-1074)).2.2 (canN y (-1074)).1 (canN y (-1074)).2.1 (canN y (-1074)).2.2 = some (canN (x - y) (-1074)) := by
  unfold cuspref02_Less.f
  rw [rminus_law, Option.bind_some, rplus_can hx (by rw [Int.natAbs_neg]; exact hy), Option.bind_some, show x + -y = x - y by omega]
end Go.Proofs.YthmeocigliephaaGreatDoor.Big
end
section
namespace Go.Proofs.YthmeocigliephaaGreatDoor.PSe
open Go.Proofs.YthmeocigliephaaGreatDoor.PSu Go.Proofs.YthmeocigliephaaGreatDoor.PSv Go.RowKit Go.Proofs.YthmeocigliephaaGreatDoorW.PrintWords Go.Proofs.YthmeocigliephaaGreatDoorW.PrintLast Go.Proofs.YthmeocigliephaaGreatDoorW.PrintMore
attribute [local go_sem] f64bits_run f64from_run run_float_some max2_int min2_int max_two min_two max_three min_three max_four min_four
def errW : Option Int → Value
 | none => .nilIface
 | some c => .iface 0 (.int .i64 c)
theorem errW_none : errW none = .nilIface := rfl
theorem errW_some (c : Int) : errW (some c) = .iface 0 (.int .i64 c) := rfl
end Go.Proofs.YthmeocigliephaaGreatDoor.PSe
end
section
namespace Go.Proofs.YthmeocigliephaaGreatDoor.PSe
open Go.Proofs.YthmeocigliephaaGreatDoor.PSu Go.Proofs.YthmeocigliephaaGreatDoor.PSv Go.RowKit Go.Proofs.YthmeocigliephaaGreatDoorW.PrintWords Go.Proofs.YthmeocigliephaaGreatDoorW.PrintLast Go.Proofs.YthmeocigliephaaGreatDoorW.PrintMore
attribute [local go_sem] f64bits_run f64from_run run_float_some max2_int min2_int max_two min_two max_three min_three max_four min_four
def cuspref05_Apart.l0 : Nat → List Nat → Bool → List Int → Int → Option (List Nat × Int)
 | 0, _, _, _, _ => none
 | k + 1, x6, x123000, x123001, x123002 => (cuspref02_Sgn.f x123000 x123001 x123002).bind fun t123 => (if t123 = 0 then (some (x6, 0)) else ((cuspref02_To.f x123000 x123001 x123002 2).bind fun t124 => ((cuspref01_Finite.f t124).bind fun t125 => (if t125 = true then (if x6.length < 17592186044416 then ((cuspref02_Float.f k t124).bind fun bt129 => ((cuspref02_Less.f x123000 x123001 x123002 bt129.1 bt129.2.1 bt129.2.2).bind fun bt134 => (cuspref05_Apart.l0 k (x6 ++ [t124]) bt134.1 bt134.2.1 bt134.2.2))) else (none)) else (some (([] : List Nat), 5))))))
def cuspref05_Apart.f (k : Nat) (l0 : List Nat) : Option (List Nat × Int) := (cuspref05_Fault.f k l0).bind fun t116 => (if t116 = 0 then ((cuspref05_Total.f k l0).bind fun bt117 => (cuspref05_Apart.l0 k ([] : List Nat) bt117.1 bt117.2.1 bt117.2.2)) else (some (([] : List Nat), t116)))
end Go.Proofs.YthmeocigliephaaGreatDoor.PSe
end
section
namespace Go.Proofs.YthmeocigliephaaGreatDoor.PSd
open Go.Proofs.YthmeocigliephaaGreatDoor.PSu Go.Proofs.YthmeocigliephaaGreatDoor.PSv Go.RowKit Go.Proofs.YthmeocigliephaaGreatDoorW.PrintWords Go.Proofs.YthmeocigliephaaGreatDoorW.PrintLast Go.Proofs.YthmeocigliephaaGreatDoorW.PrintMore
attribute [local go_sem] f64bits_run f64from_run run_float_some max2_int min2_int max_two min_two max_three min_three max_four min_four
def errW : Option Int → Value
 | none => .nilIface
 | some c => .iface 0 (.int .i64 c)
theorem errW_none : errW none = .nilIface := rfl
theorem errW_some (c : Int) : errW (some c) = .iface 0 (.int .i64 c) := rfl
end Go.Proofs.YthmeocigliephaaGreatDoor.PSd
end
section
namespace Go.Proofs.YthmeocigliephaaGreatDoor.PSd
open Go.Proofs.YthmeocigliephaaGreatDoor.PSu Go.Proofs.YthmeocigliephaaGreatDoor.PSv Go.RowKit Go.Proofs.YthmeocigliephaaGreatDoorW.PrintWords Go.Proofs.YthmeocigliephaaGreatDoorW.PrintLast Go.Proofs.YthmeocigliephaaGreatDoorW.PrintMore
attribute [local go_sem] f64bits_run f64from_run run_float_some max2_int min2_int max_two min_two max_three min_three max_four min_four
mutual
def cuspref02_product.j0 : Nat → List Int → List Int → Bool → Option (List Int)
 | 0, _, _, _ => none
 | k + 1, x0, x1, x17 => if x17 = true then (some ([] : List Int)) else (if 0 ≤ (wrap64 ((x0.length : Int) + (x1.length : Int))) then (if (wrap64 ((x0.length : Int) + (x1.length : Int)) : Int).toNat ≤ 70368744177664 then (cuspref02_product.l0 k x0 x1 (List.replicate (wrap64 ((x0.length : Int) + (x1.length : Int)) : Int).toNat 0) 0) else (none)) else (none))
def cuspref02_product.l0 : Nat → List Int → List Int → List Int → Int → Option (List Int)
 | 0, _, _, _, _ => none
 | k + 1, x0, x1, x5, x6 => if x6 < (x0.length : Int) then (cuspref02_product.l1 k x0 x1 x5 x6 0 0) else ((cuspref02_trim.f k x5).bind fun t126 => (some t126))
def cuspref02_product.l1 : Nat → List Int → List Int → List Int → Int → Int → Int → Option (List Int)
 | 0, _, _, _, _, _, _ => none
 | k + 1, x0, x1, x5, x6, x7, x8 => if x8 < (x1.length : Int) then (if 0 ≤ x6 then (if x6 < (x0.length : Int) then (if 0 ≤ x8 then (if 0 ≤ (wrap64 (x6 + x8)) then (if (wrap64 (x6 + x8)) < (x5.length : Int) then (cuspref02_product.l1 k x0 x1 (x5.set ((wrap64 (x6 + x8)) : Int).toNat ((IntKind.u64.wrap ((IntKind.u64.wrap ((IntKind.u64.wrap ((IntKind.u64.wrap (rd x0 x6)) * (IntKind.u64.wrap (rd x1 x8)))) + (IntKind.u64.wrap (rd x5 (wrap64 (x6 + x8)))))) + x7)) % 4294967296)) x6 ((IntKind.u64.wrap ((IntKind.u64.wrap ((IntKind.u64.wrap ((IntKind.u64.wrap (rd x0 x6)) * (IntKind.u64.wrap (rd x1 x8)))) + (IntKind.u64.wrap (rd x5 (wrap64 (x6 + x8)))))) + x7)) / 4294967296) (wrap64 (x8 + 1))) else (none)) else (none)) else (none)) else (none)) else (none)) else (if 0 ≤ (wrap64 (x6 + (x1.length : Int))) then (if (wrap64 (x6 + (x1.length : Int))) < (x5.length : Int) then (cuspref02_product.l0 k x0 x1 (x5.set ((wrap64 (x6 + (x1.length : Int))) : Int).toNat ((x7) % 4294967296)) (wrap64 (x6 + 1))) else (none)) else (none))
end
def cuspref02_product.f (k : Nat) (l0 : List Int) (l1 : List Int) : Option (List Int) := if (l0.length : Int) = 0 then (cuspref02_product.j0 k l0 l1 true) else (cuspref02_product.j0 k l0 l1 ((l1.length : Int) == 0))
def cuspref02_Times.f (k : Nat) (a0_0 : Bool) (l0_1 : List Int) (a0_2 : Int) (a1_0 : Bool) (l1_1 : List Int) (a1_2 : Int) : Option (Bool × List Int × Int) := (cuspref02_product.f k l0_1 l1_1).bind fun t137 => ((cuspref02_norm.f k (a0_0 != a1_0) t137 (wrap64 (a0_2 + a1_2))).bind fun bt140 => (some (bt140.1, bt140.2.1, bt140.2.2)))
end Go.Proofs.YthmeocigliephaaGreatDoor.PSd
end
section
namespace Go.Proofs.YthmeocigliephaaGreatDoor.PSd
open Go.Proofs.YthmeocigliephaaGreatDoor.PSu Go.Proofs.YthmeocigliephaaGreatDoor.PSv Go.RowKit Go.Proofs.YthmeocigliephaaGreatDoorW.PrintWords Go.Proofs.YthmeocigliephaaGreatDoorW.PrintLast Go.Proofs.YthmeocigliephaaGreatDoorW.PrintMore
attribute [local go_sem] f64bits_run f64from_run run_float_some max2_int min2_int max_two min_two max_three min_three max_four min_four
mutual
def cuspref05_Dot.j0 : Nat → List Nat → List Nat → Int → Bool → Option (Nat × Int)
 | 0, _, _, _, _ => none
 | k + 1, x0, x1, x2, x22 => if x22 = true then (some ((0 : Nat), 1)) else (if ([] : List Nat).length + x0.length < 17592186044416 then ((cuspref05_Fault.f k x0).bind fun t149 => (if t149 = 2 then (cuspref05_Dot.j2 k x0 x1 x2 t149) else ((cuspref05_Fault.f k x1).bind fun t150 => (if t149 = 4 then (cuspref05_Dot.j1 k x0 x1 x2 t149 t150 true) else (cuspref05_Dot.j1 k x0 x1 x2 t149 t150 (t150 == 4)))))) else (none))
def cuspref05_Dot.j2 : Nat → List Nat → List Nat → Int → Int → Option (Nat × Int)
 | 0, _, _, _, _ => none
 | k + 1, x0, x1, x2, x9 => if x9 = 0 then (cuspref05_Dot.l0 k x0 x1 x2 0 false ([] : List Int) 0) else (some ((0 : Nat), x9))
def cuspref05_Dot.l0 : Nat → List Nat → List Nat → Int → Int → Bool → List Int → Int → Option (Nat × Int)
 | 0, _, _, _, _, _, _, _ => none
 | k + 1, x0, x1, x2, x12, x152000, x152001, x152002 => if x12 < (x0.length : Int) then (if 0 ≤ x12 then ((cuspref02_Float.f k (rdOf (0 : Nat) x0 x12)).bind fun bt154 => (if x12 < (x1.length : Int) then ((cuspref02_Float.f k (rdOf (0 : Nat) x1 x12)).bind fun bt160 => ((cuspref02_Times.f k bt154.1 bt154.2.1 bt154.2.2 bt160.1 bt160.2.1 bt160.2.2).bind fun bt165 => ((cuspref02_Plus.f x152000 x152001 x152002 bt165.1 bt165.2.1 bt165.2.2).bind fun bt170 => (cuspref05_Dot.l0 k x0 x1 x2 (wrap64 (x12 + 1)) bt170.1 bt170.2.1 bt170.2.2)))) else (none))) else (none)) else ((cuspref03_R.f x152000 x152001 x152002 x2 (0 : Nat)).bind fun t152 => (some (t152, 0)))
def cuspref05_Dot.j1 : Nat → List Nat → List Nat → Int → Int → Int → Bool → Option (Nat × Int)
 | 0, _, _, _, _, _, _ => none
 | k + 1, x0, x1, x2, x9, x10, x32 => if x32 = true then (cuspref05_Dot.j2 k x0 x1 x2 4) else (if x10 = 0 then (cuspref05_Dot.j2 k x0 x1 x2 x9) else (cuspref05_Dot.j2 k x0 x1 x2 x10))
end
def cuspref05_Dot.f (k : Nat) (l0 : List Nat) (l1 : List Nat) (a2 : Int) : Option (Nat × Int) := (cuspref03_Valid.f a2).bind fun t145 => (if t145 = 0 then (cuspref05_Dot.j0 k l0 l1 a2 ((l0.length : Int) != (l1.length : Int))) else (cuspref05_Dot.j0 k l0 l1 a2 true))
end Go.Proofs.YthmeocigliephaaGreatDoor.PSd
end
section
namespace Go.Proofs.YthmeocigliephaaGreatDoor.PSd
open Go.Proofs.YthmeocigliephaaGreatDoor.PSu Go.Proofs.YthmeocigliephaaGreatDoor.PSv Go.RowKit Go.Proofs.YthmeocigliephaaGreatDoorW.PrintWords Go.Proofs.YthmeocigliephaaGreatDoorW.PrintLast Go.Proofs.YthmeocigliephaaGreatDoorW.PrintMore
attribute [local go_sem] f64bits_run f64from_run run_float_some max2_int min2_int max_two min_two max_three min_three max_four min_four
def cuspref05_Lost.j0 : Nat → List Nat → Nat → Int → Int → Bool → Option (Nat × Int)
 | 0, _, _, _, _, _ => none
 | k + 1, x0, x1, x6, x7, x17 => if x17 = true then (some ((0 : Nat), 4)) else (if x6 = 0 then (if x7 = 0 then ((cuspref05_Total.f k x0).bind fun bt195 => ((cuspref02_Float.f k x1).bind fun bt200 => ((cuspref02_Less.f bt195.1 bt195.2.1 bt195.2.2 bt200.1 bt200.2.1 bt200.2.2).bind fun bt205 => ((cuspref03_R.f false bt205.2.1 bt205.2.2 3 (0 : Nat)).bind fun t211 => (some (t211, 0)))))) else (some ((0 : Nat), 5))) else (some ((0 : Nat), 5)))
def cuspref05_Lost.f (k : Nat) (l0 : List Nat) (a1 : Nat) : Option (Nat × Int) := (cuspref05_Fault.f k l0).bind fun t190 => (if t190 = 2 then (some ((0 : Nat), t190)) else ((cuspref05_Fault.f k (([a1] : List Nat))).bind fun t194 => (if t190 = 4 then (cuspref05_Lost.j0 k l0 a1 t190 t194 true) else (cuspref05_Lost.j0 k l0 a1 t190 t194 (t194 == 4)))))
end Go.Proofs.YthmeocigliephaaGreatDoor.PSd
end
section
namespace Go.Proofs.YthmeocigliephaaGreatDoor.Big
open Go.Proofs.YthmeocigliephaaGreatDoor.PSu Go.Proofs.YthmeocigliephaaGreatDoor.Plain Ieee
def faultT (l m : List Nat) : Int := if 65536 < l.length ∨ 65536 < m.length then 2 else if l.any nanB = true ∨ m.any nanB = true then 4 else if l.any infB? = true ∨ m.any infB? = true then 5 else 0
end Go.Proofs.YthmeocigliephaaGreatDoor.Big
end
section
namespace Go.Proofs.YthmeocigliephaaGreatDoor
open Go.RowKit Go.Proofs.YthmeocigliephaaGreatDoorW.PrintWords Go.Proofs.YthmeocigliephaaGreatDoor.Big Go.Proofs.YthmeocigliephaaGreatDoor.Plain
def sums_fault.f (l m : List Nat) : Option Int := if l.length < 4611686018427387904 ∧ m.length < 4611686018427387904 then some (faultT l m) else none
end Go.Proofs.YthmeocigliephaaGreatDoor
end
section
namespace Go.Proofs.YthmeocigliephaaGreatDoor.PSx
open Go.Proofs.YthmeocigliephaaGreatDoor.PSu Go.Proofs.YthmeocigliephaaGreatDoor.PSv Go.RowKit Go.Proofs.YthmeocigliephaaGreatDoorW.PrintWords Go.Proofs.YthmeocigliephaaGreatDoorW.PrintLast Go.Proofs.YthmeocigliephaaGreatDoorW.PrintMore
attribute [local go_sem] f64bits_run f64from_run run_float_some max2_int min2_int max_two min_two max_three min_three max_four min_four
def errW : Option Int → Value
 | none => .nilIface
 | some c => .iface 0 (.int .i64 c)
theorem errW_none : errW none = .nilIface := rfl
theorem errW_some (c : Int) : errW (some c) = .iface 0 (.int .i64 c) := rfl
end Go.Proofs.YthmeocigliephaaGreatDoor.PSx
end
section
namespace Go.Proofs.YthmeocigliephaaGreatDoor.PSx
open Go.Proofs.YthmeocigliephaaGreatDoor.PSu Go.Proofs.YthmeocigliephaaGreatDoor.PSv Go.RowKit Go.Proofs.YthmeocigliephaaGreatDoorW.PrintWords Go.Proofs.YthmeocigliephaaGreatDoorW.PrintLast Go.Proofs.YthmeocigliephaaGreatDoorW.PrintMore
attribute [local go_sem] f64bits_run f64from_run run_float_some max2_int min2_int max_two min_two max_three min_three max_four min_four
def dyad_Abs.f (a0_0 : Bool) (l0_1 : List Int) (a0_2 : Int) : Option (Bool × List Int × Int) := (dyad_Valid.f a0_0 l0_1 a0_2).bind fun t133 => (if t133 = true then (if (l0_1.length : Int) = 0 then (some (false, ([] : List Int), 0)) else ((some (([] : List Int) : List Int)).bind fun y134 => (if y134.length + l0_1.length < 35184372088832 then (some (false, (y134 ++ l0_1), a0_2)) else (none)))) else (some (false, ([] : List Int), 0)))
end Go.Proofs.YthmeocigliephaaGreatDoor.PSx
end
section
namespace Go.Proofs.YthmeocigliephaaGreatDoor.Big
open Go.Proofs.YthmeocigliephaaGreatDoor.PSv Go.Proofs.YthmeocigliephaaGreatDoor.PSu Go.Proofs.YthmeocigliephaaGreatDoor.Plain Ieee
theorem qN_err (n : Nat) : bl ((n : Int) - ((qN n * 2 ^ (bl n - 53) : Nat) : Int)).natAbs ≤ bl n - 53 := by
  obtain ⟨k, hk⟩ : ∃ k, bl n - 53 = k := ⟨_, rfl⟩
  unfold qN
  rw [hk]
  by_cases h0 : k = 0
  · subst h0
    rw [q_exact (by rw [Nat.pow_zero]; exact Nat.mod_one n), Int.sub_self]
    decide
  · have h1 := nearest n k (by omega) ((n / 2 ^ k : Nat) : Int)
    have h2 := Nat.div_add_mod n (2 ^ k)
    have h3 := Nat.mod_lt n (show 2 ^ k > 0 from Nat.pow_pos (by omega))
    rw [Int.natCast_mul]
    refine bl_le.2 (Nat.lt_of_le_of_lt h1 ?_)
    rw [← Int.natCast_mul]
    rw [Nat.mul_comm] at h2
    omega
theorem rnd_cases {z : Int} (hz : z ≠ 0) : (infB? (rndZ z 2) = true ∧ rndZ z 2 < 18446744073709551616) ∨ (infB? (rndZ z 2) = false ∧ Fin64 (rndZ z 2) ∧ bl (z - flz (rndZ z 2)).natAbs ≤ bl z.natAbs - 53) := by
  have hn : z.natAbs ≠ 0 := by omega
  have hle := magV_le z.natAbs (-1074) false true hn
  rw [rnd_eq hz]
  by_cases hlt : magV z.natAbs (-1074) false true < infB
  · right
    have hv := (magV_val z.natAbs hn).1 hlt
    obtain ⟨f1, f2⟩ := flz_sign hlt (decide (z < 0))
    have f3 : infB? (signV (decide (z < 0)) (magV z.natAbs (-1074) false true)) = false := by
      rw [inf_law f1.1, beq_eq_false_iff_ne]
      have := f1.2
      omega
    refine ⟨f3, f1, ?_⟩
    rw [f2, hv]
    have he := qN_err z.natAbs
    by_cases hneg : z < 0
    · rw [if_pos (decide_eq_true hneg)]
      rw [show (z - -((qN z.natAbs * 2 ^ (bl z.natAbs - 53) : Nat) : Int)).natAbs = ((z.natAbs : Int) - ((qN z.natAbs * 2 ^ (bl z.natAbs - 53) : Nat) : Int)).natAbs by omega]
      exact he
    · rw [if_neg (by simpa using hneg)]
      rw [show (z - ((qN z.natAbs * 2 ^ (bl z.natAbs - 53) : Nat) : Int)).natAbs = ((z.natAbs : Int) - ((qN z.natAbs * 2 ^ (bl z.natAbs - 53) : Nat) : Int)).natAbs by omega]
      exact he
  · left
    have he : magV z.natAbs (-1074) false true = infB := by omega
    rw [he]
    cases decide (z < 0)
    · exact ⟨by decide +kernel, by decide +kernel⟩
    · exact ⟨by decide +kernel, by decide +kernel⟩
theorem apartL_some : ∀ (k : Nat) (pre : List Nat) (z : Int), bl z.natAbs < k → bl z.natAbs ≤ 2200 → pre.length + bl z.natAbs < 50000 → ∃ L q, apartL k pre z = some (L, q)
  | 0, _, _, h, _, _ => absurd h (by omega)
  | k + 1, pre, z, h, h1, h2 => by
    rw [apartL]
    by_cases hz : z = 0
    · rw [if_pos hz]; exact ⟨_, _, rfl⟩
    · rw [if_neg hz, if_pos ⟨h1, by omega⟩]
      have hpos : bl z.natAbs ≠ 0 := fun h0 => by
        have := bl_le.1 (Nat.le_of_eq h0)
        omega
      rcases rnd_cases hz with ⟨hi, _⟩ | ⟨hi, hf, he⟩
      · rw [if_pos hi]; exact ⟨_, _, rfl⟩
      · rw [if_neg (by rw [hi]; decide), if_pos hf]
        exact apartL_some k _ _ (by omega) (by omega) (by rw [List.length_append, List.length_singleton]; omega)
theorem rsgn_can (z e : Int) : ∃ s : Int, cuspref02_Sgn.f (canN z e).1 (canN z e).2.1 (canN z e).2.2 = some s ∧ (s = 0 ↔ z = 0) := by
  unfold cuspref02_Sgn.f
  by_cases h : z = 0
  · rw [if_pos (by have := (can_length (e := e)).2 h; omega)]
    exact ⟨0, rfl, fun _ => h, fun _ => rfl⟩
  · rw [if_neg (fun h' => h ((can_length (e := e)).1 (by omega)))]
    split
    · exact ⟨_, rfl, fun h' => by omega, fun h' => absurd h' h⟩
    · exact ⟨_, rfl, fun h' => by omega, fun h' => absurd h' h⟩
def apartT (l : List Nat) : List Nat × Int := if faultL l = 0 then (apartL 3000 [] (sumZ l)).getD ([], 0) else ([], faultL l)
theorem apart_sum {l : List Nat} (hf : ∀ b ∈ l, Fin64 b) (hl : l.length ≤ 65536) : ∃ L q, apartL 3000 [] (sumZ l) = some (L, q) := by
  have := sumZ_bl l hf hl
  exact apartL_some 3000 [] (sumZ l) (by omega) (by omega) (by rw [List.length_nil]; omega)
theorem apartL_len : ∀ (k : Nat) (pre : List Nat) (z : Int) (L : List Nat) (q : Int), apartL k pre z = some (L, q) → pre.length ≤ 100000 → L.length ≤ 100000
  | 0, _, _, _, _, h, _ => by cases h
  | k + 1, pre, z, L, q, h, hp => by
    rw [apartL] at h
    split at h
    · cases h; exact hp
    · split at h
      · rename_i hg
        split at h
        · cases h; simp
        · split at h
          · exact apartL_len k _ _ _ _ h (by rw [List.length_append, List.length_singleton]; omega)
          · cases h
      · cases h
end Go.Proofs.YthmeocigliephaaGreatDoor.Big
end
section
namespace Go.Proofs.YthmeocigliephaaGreatDoor.Big
open Go.Proofs.YthmeocigliephaaGreatDoor.PSu Go.Proofs.YthmeocigliephaaGreatDoor.Plain Ieee
def halvesT : Nat → List Nat → Nat
  | 0, _ => 0
  | n + 1, l => if l.length = 0 then 0 else if l.length = 1 then rdOf (0 : Nat) l 0 else sumT (halvesT n (l.take (l.length / 2))) (halvesT n (l.drop (l.length / 2)))
theorem halvesT_lt : ∀ (n : Nat) (l : List Nat), (∀ b ∈ l, b < 18446744073709551616) → halvesT n l < 18446744073709551616
  | 0, _, _ => by unfold halvesT; omega
  | n + 1, l, h => by
    unfold halvesT
    split
    · omega
    · split
      · exact rd_lt h 0
      · exact sumT_lt (halvesT_lt n _ fun b hb => h b (List.mem_of_mem_take hb)) (halvesT_lt n _ fun b hb => h b (List.mem_of_mem_drop hb))
def halves_T : Bool × List (List Nat × List Nat) := (true, [([], []), ([], []), ([1], [1]), ([0, 2], [0, 2]), ([3], [3]), ([], []), ([], []), ([6], [6]), ([5, 7], [5, 7]), ([8, 4], [8]), ([4, 9, 9], [4, 9]), ([10, 10, 0, 1, 2, 3, 4, 5, 6, 7, 8, 9, 10], [10])])
def halves_B : List Nat := [0, 0, 2, 7, 15, 0, 0, 64, 224, 511, 1023, 2047]
theorem halves_tab : rtab .any (opsOf Tryz.f14 3) = halves_T := by kernel_rfl
theorem halves_bits : waitsOk halves_T.2 halves_B = true := by kernel_rfl
theorem halves_rel (n : Nat) : ∀ (A0 : Option Addr) (c0 : Nat) (l0 : List Nat) (w : World), l0.length ≤ n ∧ l0.length < 4611686018427387904 → Kd.C Kd.float w A0 l0.length l0 → l0.length ≤ c0 → (∀ b ∈ l0, b < 18446744073709551616) → Laid w →
    Calls Tryz.prog 14 #[.slice A0 l0.length c0] w (RetRel (halvesT n l0) w) := by
  induction n with
  | zero =>
    intro A0 c0 l0 w hn hr hc hw hL
    have HB := asd (Below.refl w.heap.size w)
    obtain rfl : l0 = [] := List.length_eq_zero_iff.1 (by omega)
    clear hn hr hc hw hL
    go_enter Tryz.func14, Tryz.ntmps14
    go_wp2
    go_ret
    exact ⟨0, .inl rfl, by omega, rfl, HB.out⟩
  | succ n ih =>
  intro A0 c0 l0 w hn hr hc hw hL
  have IH := asd ih
  have HL := asd hL
  have HB := asd (Below.refl w.heap.size w)
  clear ih
  obtain ⟨T, hT⟩ : ∃ T, halvesT (n + 1) l0 = T := ⟨_, rfl⟩
  rw [hT]
  unfold halvesT at hT
  by_cases c2 : (l0.length : Int) = 0
  · have c2b0 : ((l0.length : Int) == 0) = true := beq_iff_eq.mpr c2
    rw [if_pos (by omega)] at hT
    subst hT
    clear c2 hn hr hc hw hL
    go_enter Tryz.func14, Tryz.ntmps14
    go_wp2
    go_ret
    exact ⟨0, .inl rfl, by omega, rfl, HB.out⟩
  have c2b0 : ((l0.length : Int) == 0) = false := beq_eq_false_iff_ne.mpr c2
  have c2b1 : ((l0.length : Int) != 0) = true := bne_iff_ne.mpr c2
  have c2b2 : ¬ (l0 = []) := fun h_ => c2 (by rw [h_]; rfl)
  rw [if_neg (by omega)] at hT
  by_cases c3 : (l0.length : Int) = 1
  · have c3b0 : ((l0.length : Int) == 1) = true := beq_iff_eq.mpr c3
    have c3b1 : ((l0.length : Int) != 1) = false := bne_eq_false_iff_eq.mpr c3
    rw [if_pos (by omega)] at hT
    have HX := asd (rd_lt hw 0)
    have p172 : 0 ≤ (0 : Int) := (by omega)
    have q172 : 0 < (l0.length : Int) := by omega
    obtain ⟨ad172, e172, hx172_0⟩ := Kd.at_float hr 0 p172 q172
    cases e172
    rw [hT] at hx172_0 HX
    have qi172 : (0 < l0.length) = True := eq_true (by omega)
    rw [show ((0 : Int)).toNat = 0 from rfl, Addr.add_zero'] at hx172_0
    replace p172 := eq_true p172
    replace q172 := eq_true q172
    clear c3 hT hn hr hc hw hL c2
    go_enter Tryz.func14, Tryz.ntmps14
    go_wp2
    go_ret
    exact ⟨T, .inl rfl, HX.out, rfl, HB.out⟩
  · have c3b0 : ((l0.length : Int) == 1) = false := beq_eq_false_iff_ne.mpr c3
    have c3b1 : ((l0.length : Int) != 1) = true := bne_iff_ne.mpr c3
    rw [if_neg (by omega)] at hT
    obtain ⟨ji5, hji5⟩ : ∃ j_ : Int, (wrap64 ((l0.length : Int) / 2)) = j_ := ⟨_, rfl⟩
    have hji5w : (IntKind.i64.wrap ((l0.length : Int) / 2)) = ji5 := (i64_w _).trans hji5
    have hj : ji5 = (l0.length : Int) / 2 := by rw [← hji5]; exact w64_of (by omega) (by omega)
    have hj2 : (ji5 : Int).toNat = l0.length / 2 := by omega
    rw [← hj2] at hT
    have c6b1 : decide (0 ≤ (ji5)) = true := decide_eq_true (by omega)
    have c7b1 : decide ((ji5) ≤ (l0.length : Int)) = true := decide_eq_true (by omega)
    have J1 := asd (show (l0.take ((ji5) : Int).toNat).length ≤ n ∧ (l0.take ((ji5) : Int).toNat).length < 4611686018427387904 by rw [List.length_take]; omega)
    have J2 := asd (show ∀ b ∈ l0.take ((ji5) : Int).toNat, b < 18446744073709551616 from fun b hb => hw b (List.mem_of_mem_take hb))
    have J3 := asd (show (l0.drop ((ji5) : Int).toNat).length ≤ n ∧ (l0.drop ((ji5) : Int).toNat).length < 4611686018427387904 by rw [List.length_drop]; omega)
    have J4 := asd (show ∀ b ∈ l0.drop ((ji5) : Int).toNat, b < 18446744073709551616 from fun b hb => hw b (List.mem_of_mem_drop hb))
    have HT := asd hT
    have HR0 := asd hr
    have HC0 := asd hc
    have HJ0 := asd (show 0 ≤ ji5 ∧ ji5 ≤ (l0.length : Int) by omega)
    have c6b0 := eq_true HJ0.out.1
    have c7b0 := eq_true HJ0.out.2
    clear hj hj2 hT hn hr hc hw hL
    go_enter Tryz.func14, Tryz.ntmps14
    try go_wp2
    have n0_ := asd (below_drew1 HB.out)
    clear HB
    have HB := n0_
    clear n0_
    obtain ⟨i014, hi014, _, hsz14, _⟩ := info_parts info25
    obtain ⟨hcut14, hA14, hC14⟩ := print_take_of (P := Tryz.prog) (Value.float .f64) (0 : Nat) 22 25 .i64 Tryz.underlying22 hi014 hsz14 A0 c0 l0 (ji5) (odt) (odt) HC0.out
    have HR173 := asd (Kd.C_of_reads (h1 := fun _ => rfl) (hA14 _ (Kd.reads_of_C HR0.out)))
    have HC173 := asd hC14
    clear hA14 hC14 hi014 hsz14
    obtain ⟨i015, hi015, _, hsz15, _⟩ := info_parts info25
    obtain ⟨A15, hcut15, hA15, hC15⟩ := print_drop_of (P := Tryz.prog) (Value.float .f64) (0 : Nat) 22 25 .i64 Tryz.underlying22 hi015 hsz15 A0 c0 l0 (ji5) (odt) (odt) HC0.out
    have HR175 := asd (Kd.C_of_reads (h1 := fun _ => rfl) (hA15 _ (Kd.reads_of_C HR0.out)))
    have HC175 := asd hC15
    clear hA15 hC15 hi015 hsz15
    refine start_ (n := 12) (S := fun w' => True) (ds := []) #[false, false, false, false, false, false, false, false, false, false, false, false] (by kernel_rfl) rfl rfl trivial (fun hHeld => ?_); refine with_tabW halves_tab halves_bits (fun HT_ HW_ => ?_)
    generalize w.drew = w13 at HB HR173 HR175 hHeld ⊢
    refine pure_ (i := 0) (N := some 7) (v := ?_) (a' := ?_) #[true, false, false, false, false, false, false, false, false, false, false, false] rfl rfl (any_of HT_.out (by kernel_rfl)) (fun _ _ _ h => h) (Or.inl ⟨by rfl, ?_⟩) ?_ ?_
    rotate_left
    · intro w'
      go_simp
      with_reducible rfl
    rotate_left
    · simp only [Act.put, List.setIfInBounds_toArray, List.set_cons_zero, List.set_cons_succ, i64_w, i32_w]
      rfl
    refine pure_ (i := 1) (N := some 8) (v := ?_) (a' := ?_) #[true, true, false, false, false, false, false, false, false, false, false, false] rfl rfl (any_of HT_.out (by kernel_rfl)) (fun _ _ _ h => h) (Or.inl ⟨by rfl, ?_⟩) ?_ ?_
    rotate_left
    · intro w'
      go_simp
      with_reducible rfl
    rotate_left
    · simp only [Act.put, List.setIfInBounds_toArray, List.set_cons_zero, List.set_cons_succ, i64_w, i32_w]
      rfl
    refine pure_ (i := 2) (N := some 9) (v := ?_) (a' := ?_) #[true, true, true, false, false, false, false, false, false, false, false, false] rfl rfl (any_of HT_.out (by kernel_rfl)) (fun _ _ _ h => h) (Or.inl ⟨by rfl, ?_⟩) ?_ ?_
    rotate_left
    · intro w'
      go_simp
      with_reducible rfl
    rotate_left
    · simp only [Act.put, List.setIfInBounds_toArray, List.set_cons_zero, List.set_cons_succ, i64_w, i32_w]
      rfl
    refine pure_ (i := 3) (N := some 10) (v := ?_) (a' := ?_) #[true, true, true, true, false, false, false, false, false, false, false, false] rfl rfl (any_of HT_.out (by kernel_rfl)) (fun _ _ _ h => h) (Or.inl ⟨by rfl, ?_⟩) ?_ ?_
    rotate_left
    · intro w'
      go_simp
      with_reducible rfl
    rotate_left
    · simp only [Act.put, List.setIfInBounds_toArray, List.set_cons_zero, List.set_cons_succ, i64_w, i32_w]
      rfl
    refine pure_ (i := 5) (N := some 12) (v := ?_) (a' := ?_) #[true, true, true, true, false, true, false, false, false, false, false, false] rfl rfl (any_of HT_.out (by kernel_rfl)) (fun _ _ _ h => h) (Or.inl ⟨by rfl, ?_⟩) ?_ ?_
    rotate_left
    · intro w'
      go_simp
      with_reducible rfl
    rotate_left
    · simp only [Act.put, List.setIfInBounds_toArray, List.set_cons_zero, List.set_cons_succ, i64_w, i32_w]
      rfl
    refine pure_ (i := 6) (N := some 13) (v := ?_) (a' := ?_) #[true, true, true, true, false, true, true, false, false, false, false, false] rfl rfl (any_of HT_.out (by kernel_rfl)) (fun _ _ _ h => h) (Or.inl ⟨by rfl, ?_⟩) ?_ ?_
    rotate_left
    · intro w'
      go_simp
      with_reducible rfl
    rotate_left
    · simp only [Act.put, List.setIfInBounds_toArray, List.set_cons_zero, List.set_cons_succ, i64_w, i32_w]
      rfl
    refine pure_ (i := 7) (N := some 14) (v := ?_) (a' := ?_) #[true, true, true, true, false, true, true, true, false, false, false, false] rfl rfl (any_of HT_.out (by kernel_rfl)) (fun _ _ _ h => h) (Or.inl ⟨by rfl, ?_⟩) ?_ ?_
    rotate_left
    · intro w'
      go_simp
      with_reducible rfl
    rotate_left
    · simp only [Act.put, List.setIfInBounds_toArray, List.set_cons_zero, List.set_cons_succ, i64_w, i32_w]
      rfl
    refine pure_ (i := 8) (N := some 15) (v := ?_) (a' := ?_) #[true, true, true, true, false, true, true, true, true, false, false, false] rfl rfl (any_of HT_.out (by kernel_rfl)) (fun _ _ _ h => h) (Or.inl ⟨by rfl, ?_⟩) ?_ ?_
    rotate_left
    · intro w'
      go_simp
      with_reducible rfl
    rotate_left
    · simp only [Act.put, List.setIfInBounds_toArray, List.set_cons_zero, List.set_cons_succ, i64_w, i32_w]
      rfl
    refine one_ (i := 4) (N := some 11) #[true, true, true, true, true, true, true, true, true, false, false, false] rfl rfl (one_of HT_.out (by kernel_rfl)) (by decide) (fun K hK => ?_)
    refine goes_ Tryz.func14 (by kernel_rfl) rfl #[.slice A0 (l0.take ((ji5) : Int).toNat).length c0] (by rfl) rfl rfl (by (try simp only [List.map_toArray, List.map_cons, List.map_nil]); first | done | (rw [show (l0.take ((ji5) : Int).toNat).length = (ji5).toNat from (by rw [List.length_take]; have h_ : ((ji5) : Int) ≤ (l0.length : Int) := odt; omega)] <;> rfl) | (simp only [hji5]; rfl) | rfl | (simp only [List.length_drop, List.length_take]; rfl)) ?_
    refine (IH.out A0 c0 (l0.take ((ji5) : Int).toNat) _ J1.out (Kd.C_below HR173.out HB.out) HC173.out J2.out (HL.out.step HB.out)).mono ?_
    rintro e w16 ⟨t174, n1, n2, rfl, hb⟩
    have N1 := asd (And.intro n1 n2)
    clear n1 n2
    refine ⟨_, rfl, ?_⟩
    have n0_ := asd (below_step hbw hb)
    clear HB
    have HB := n0_
    clear n0_
    (try clear hb)
    (try clear hb2)
    (try clear hk)
    (try clear hi)
    refine hK.out _ _ trivial (fun hHeld => ?_)
    clear hK K
    refine norm_ (a' := ?_) ?_ ?_
    rotate_left
    · show Act.put _ (some 11) _ = _
      simp only [Act.put, List.setIfInBounds_toArray, List.set_cons_zero, List.set_cons_succ, i64_w, i32_w]
      rfl
    refine one_ (i := 9) (N := some 16) #[true, true, true, true, true, true, true, true, true, true, false, false] rfl rfl (one_of HT_.out (by kernel_rfl)) (by decide) (fun K hK => ?_)
    refine goes_ Tryz.func14 (by kernel_rfl) rfl #[.slice A15 (l0.drop ((ji5) : Int).toNat).length (c0 - (ji5).toNat)] (by rfl) rfl rfl (by (try simp only [List.map_toArray, List.map_cons, List.map_nil]); first | done | (rw [show (l0.drop ((ji5) : Int).toNat).length = (l0.length - (ji5).toNat) from List.length_drop] <;> rfl) | (simp only [hji5]; rfl) | rfl | (simp only [List.length_drop, List.length_take]; rfl)) ?_
    refine (IH.out A15 (c0 - (ji5).toNat) (l0.drop ((ji5) : Int).toNat) _ J3.out (Kd.C_below HR175.out HB.out) HC175.out J4.out (HL.out.step HB.out)).mono ?_
    rintro e w17 ⟨t176, n1, n2, rfl, hb⟩
    have N2 := asd (And.intro n1 n2)
    clear n1 n2
    refine ⟨_, rfl, ?_⟩
    have n0_ := asd (below_step hbw hb)
    clear HB
    have HB := n0_
    clear n0_
    (try clear hb)
    (try clear hb2)
    (try clear hk)
    (try clear hi)
    refine hK.out _ _ trivial (fun hHeld => ?_)
    clear hK K
    refine norm_ (a' := ?_) ?_ ?_
    rotate_left
    · show Act.put _ (some 16) _ = _
      simp only [Act.put, List.setIfInBounds_toArray, List.set_cons_zero, List.set_cons_succ, i64_w, i32_w]
      rfl
    refine one_ (i := 10) (N := some 17) #[true, true, true, true, true, true, true, true, true, true, true, false] rfl rfl (one_of HT_.out (by kernel_rfl)) (by decide) (fun K hK => ?_)
    refine goes_ Tryz.func39 (by kernel_rfl) rfl #[.float .f64 t174, .float .f64 t176] (by rfl) rfl rfl eqA ?_
    refine (near_rel t174 t176 _ N1.out.2 N2.out.2 (HL.out.step HB.out)).mono ?_
    rintro e w18 ⟨t177, n1, n2, rfl, hb⟩
    have N3 := asd (And.intro n1 n2)
    clear n1 n2
    refine ⟨_, rfl, ?_⟩
    have n0_ := asd (below_step hbw hb)
    clear HB
    have HB := n0_
    clear n0_
    (try clear hb)
    (try clear hb2)
    (try clear hk)
    (try clear hi)
    refine hK.out _ _ trivial (fun hHeld => ?_)
    clear hK K
    refine norm_ (a' := ?_) ?_ ?_
    rotate_left
    · show Act.put _ (some 17) _ = _
      simp only [Act.put, List.setIfInBounds_toArray, List.set_cons_zero, List.set_cons_succ, i64_w, i32_w]
      rfl
    refine pure_ (i := 11) (N := some 2) (v := ?_) (a' := ?_) #[true, true, true, true, true, true, true, true, true, true, true, true] rfl rfl (any_of HT_.out (by kernel_rfl)) (fun _ _ _ h => h) (Or.inl ⟨by rfl, ?_⟩) ?_ ?_
    rotate_left
    · intro w'
      go_simp
      with_reducible rfl
    rotate_left
    · simp only [Act.put, List.setIfInBounds_toArray, List.set_cons_zero, List.set_cons_succ, i64_w, i32_w]
      rfl
    refine done_ (done_of HT_.out (by kernel_rfl)) ?_
    try go_wp2
    go_ret
    refine ⟨t177, ?_, N3.out.2, rfl, HB.out⟩
    have := relN_sum N1.out.2 N2.out.2 (halvesT_lt n _ J2.out) (halvesT_lt n _ J4.out) N1.out.1 N2.out.1
    exact HT.out ▸ relN_trans N3.out.1 this
end Go.Proofs.YthmeocigliephaaGreatDoor.Big
end
section
namespace Go.Proofs.YthmeocigliephaaGreatDoor.Big
open Go.Proofs.YthmeocigliephaaGreatDoor.PSu Go.Proofs.YthmeocigliephaaGreatDoor.Plain
def sureM : List Nat := [4607182418800017408, 6103021453049119613, 4607182418800017408, 15326393489903895421]
theorem sureM_row : rowT sureM = 0 := by decide +kernel
theorem sureM_kept : keptT sureM 0 0 = 4611686018427387904 := by decide +kernel
theorem sureM_halves : halvesT 4 sureM = 0 := by decide +kernel
theorem sureM_sum : sumT 4846369599423283200 4607182418800017408 = 4846369599423283200 := by decide +kernel
theorem sureM_lost : lostT 4846369599423283200 4607182418800017408 = 4607182418800017408 := by decide +kernel
theorem sureM_exact : exactW sureM 2 (canN (sumZ sureM) (-1074)) = (4611686018427387904, 0) := by decide +kernel
theorem sureM_arg : exactW sureM 0 (canN (sumZ sureM) (-1074)) = (0, 1) := by decide +kernel
theorem sureM_fin : ∀ b ∈ sureM, b < 18446744073709551616 := by decide +kernel
theorem sureM_lit (w : World) : Kd.C Kd.float (w.alloc (.cells #[.float .f64 4607182418800017408, .float .f64 6103021453049119613, .float .f64 4607182418800017408, .float .f64 15326393489903895421] 25 (0, 0))) (some ⟨w.heap.size, 0, none⟩) sureM.length sureM := by
  refine Kd.C_of_reads (d := (0 : Nat)) ⟨rfl, by decide, fun _ => ⟨_, rfl, fun j hj => ?_⟩⟩
  have hb := blk_new w (.cells #[.float .f64 4607182418800017408, .float .f64 6103021453049119613, .float .f64 4607182418800017408, .float .f64 15326393489903895421] 25 (0, 0))
  have h4 : j < 4 := hj
  have hc := blk_cell hb
  have : j = 0 ∨ j = 1 ∨ j = 2 ∨ j = 3 := by omega
  rcases this with rfl | rfl | rfl | rfl
  · exact hc 0
  · exact hc 1
  · exact hc 2
  · exact hc 3
theorem sure_rel (w : World) (hL : Laid w) : Calls Tryz.prog 19 #[] w fun e w' => e = .returned (.bool true) ∧ Below w.heap.size w w' := by
  have HL := asd hL
  have B1 := asd ((Below.refl w.heap.size w).alloc (Nat.le_refl _) (.cells #[.float .f64 4607182418800017408, .float .f64 6103021453049119613, .float .f64 4607182418800017408, .float .f64 15326393489903895421] 25 (0, 0)))
  have C1 := asd (sureM_lit w)
  have E1 := asd sureM_exact
  have E2 := asd sureM_arg
  have V1 : (FloatKind.f64.format.order 0 0 == some .eq) = true := by decide +kernel
  have V2 : (FloatKind.f64.format.order 4611686018427387904 4611686018427387904 == some .eq) = true := by decide +kernel
  have V3 : (FloatKind.f64.format.order 4846369599423283200 4846369599423283200 == some .eq) = true := by decide +kernel
  have V4 : (FloatKind.f64.format.order 4607182418800017408 4607182418800017408 == some .eq) = true := by decide +kernel
  have N0 := asd (show nanB (rowT sureM) = false by rw [sureM_row]; decide +kernel)
  have N1 := asd (show nanB (keptT sureM 0 0) = false by rw [sureM_kept]; decide +kernel)
  have N2 := asd (show nanB (halvesT 4 sureM) = false by rw [sureM_halves]; decide +kernel)
  have N3 := asd (show nanB (sumT 4846369599423283200 4607182418800017408) = false by rw [sureM_sum]; decide +kernel)
  have tok1 : True := trivial
  clear hL
  go_enter Tryz.func19, Tryz.ntmps19
  go_wp2_with (first
    | (go_at_call 22; have _t := tok1; refine (exact_list (some ⟨w.heap.size, 0, none⟩) 4 sureM 2 _ C1.out (by decide) (by decide) sureM_fin (HL.out.step B1.out)).mono ?_; rw [E1.out]; rintro e w2 ⟨rfl, d⟩; have B2 := asd (below_post d B1.out); have C2 := asd (Kd.C_below C1.out d); clear d _t tok1)
    | (go_at_call 22; refine (exact_list (some ⟨w.heap.size, 0, none⟩) 4 sureM 0 _ C2.out (by decide) (by decide) sureM_fin (HL.out.step B2.out)).mono ?_; rw [E2.out]; rintro e w3 ⟨rfl, d⟩; have B3 := asd (below_post d B2.out); have C3 := asd (Kd.C_below C2.out d); clear d)
    | (go_at_call 20; refine (two_rel _ _ _ (by decide) (by decide) (HL.out.step B3.out)).mono ?_; rw [sureM_lost]; rintro e w4 ⟨r, h1, _, rfl, d⟩; obtain rfl := (relN_eq h1 N3.out).trans sureM_sum; have B4 := asd (below_post d B3.out); have C4 := asd (Kd.C_below C3.out d); clear d h1)
    | (go_at_call 12; refine (row_rel (some ⟨w.heap.size, 0, none⟩) 4 sureM _ C4.out (by decide) (by decide) sureM_fin (HL.out.step B4.out)).mono ?_; rintro e w5 ⟨r, h1, _, rfl, d⟩; obtain rfl := (relN_eq h1 N0.out).trans sureM_row; have B5 := asd (below_post d B4.out); have C5 := asd (Kd.C_below C4.out d); clear d h1)
    | (go_at_call 16; refine (kept_rel (some ⟨w.heap.size, 0, none⟩) 4 sureM _ C5.out (by decide) (by decide) sureM_fin (HL.out.step B5.out)).mono ?_; rintro e w6 ⟨r, h1, _, rfl, d⟩; obtain rfl := (relN_eq h1 N1.out).trans sureM_kept; have B6 := asd (below_post d B5.out); have C6 := asd (Kd.C_below C5.out d); clear d h1)
    | (go_at_call 14; refine (halves_rel 4 (some ⟨w.heap.size, 0, none⟩) 4 sureM _ ⟨by decide, by decide⟩ C6.out (by decide) sureM_fin (HL.out.step B6.out)).mono ?_; rintro e w7 ⟨r, h1, _, rfl, d⟩; obtain rfl := (relN_eq h1 N2.out).trans sureM_halves; have B7 := asd (below_post d B6.out); clear d h1))
  go_ret
  exact ⟨rfl, B7.out⟩
end Go.Proofs.YthmeocigliephaaGreatDoor.Big
end
section
namespace Go.Proofs.YthmeocigliephaaGreatDoor.PSv
open Go.Proofs.YthmeocigliephaaGreatDoor.PSu Go.RowKit Go.Proofs.YthmeocigliephaaGreatDoorW.PrintWords Go.Proofs.YthmeocigliephaaGreatDoorW.PrintLast Go.Proofs.YthmeocigliephaaGreatDoorW.PrintMore
attribute [local go_sem] f64bits_run f64from_run run_float_some max2_int min2_int max_two min_two max_three min_three max_four min_four
def cuspref02_magnitude.j0 : Nat → Bool → Bool → List Int → Int → Bool → List Int → Int → Option (Int)
 | 0, _, _, _, _, _, _, _ => none
 | k + 1, x6, x191000, x191001, x191002, x192000, x192001, x192002 => if x6 = true then (some (wrap64 ((x191001.length : Int) - (x192001.length : Int)))) else ((cuspref02_High.f k x191000 x191001 x191002).bind fun t192 => ((cuspref02_High.f k x192000 x192001 x192002).bind fun t193 => (if t192 = t193 then ((cuspref02_up.f k x191001 (wrap64 (x191002 - (mn x191002 x192002)))).bind fun t194 => ((cuspref02_up.f k x192001 (wrap64 (x192002 - (mn x191002 x192002)))).bind fun t197 => ((cuspref02_order.f k t194 t197).bind fun t200 => (some t200)))) else ((cuspref02_High.f k x191000 x191001 x191002).bind fun t201 => ((cuspref02_High.f k x192000 x192001 x192002).bind fun t202 => (some (wrap64 (t201 - t202))))))))
def cuspref02_magnitude.f (k : Nat) (a0_0 : Bool) (l0_1 : List Int) (a0_2 : Int) (a1_0 : Bool) (l1_1 : List Int) (a1_2 : Int) : Option (Int) := if (l0_1.length : Int) = 0 then (cuspref02_magnitude.j0 k true a0_0 l0_1 a0_2 a1_0 l1_1 a1_2) else (cuspref02_magnitude.j0 k ((l1_1.length : Int) == 0) a0_0 l0_1 a0_2 a1_0 l1_1 a1_2)
end Go.Proofs.YthmeocigliephaaGreatDoor.PSv
end
section
namespace Go.Proofs.YthmeocigliephaaGreatDoor.PSv
open Go.Proofs.YthmeocigliephaaGreatDoor.PSu Go.RowKit Go.Proofs.YthmeocigliephaaGreatDoorW.PrintWords Go.Proofs.YthmeocigliephaaGreatDoorW.PrintLast Go.Proofs.YthmeocigliephaaGreatDoorW.PrintMore
attribute [local go_sem] f64bits_run f64from_run run_float_some max2_int min2_int max_two min_two max_three min_three max_four min_four
def cuspref02_Order.j0 : Nat → Int → Option (Int)
 | 0, _ => none
 | k + 1, x7 => if x7 < 0 then (some (-1)) else (if x7 > 0 then (some 1) else (some 0))
def cuspref02_Order.f (k : Nat) (a0_0 : Bool) (l0_1 : List Int) (a0_2 : Int) (a1_0 : Bool) (l1_1 : List Int) (a1_2 : Int) : Option (Int) := (cuspref02_Sgn.f a0_0 l0_1 a0_2).bind fun t205 => ((cuspref02_Sgn.f a1_0 l1_1 a1_2).bind fun t206 => (if t205 = t206 then ((cuspref02_magnitude.f k a0_0 l0_1 a0_2 a1_0 l1_1 a1_2).bind fun t207 => (if t205 < 0 then (cuspref02_Order.j0 k (wrap64 (-t207))) else (cuspref02_Order.j0 k t207))) else (if t205 < t206 then (some (-1)) else (some 1))))
end Go.Proofs.YthmeocigliephaaGreatDoor.PSv
end
section
namespace Go.Proofs.YthmeocigliephaaGreatDoor.PSv
open Go.Proofs.YthmeocigliephaaGreatDoor.PSu Go.RowKit Go.Proofs.YthmeocigliephaaGreatDoorW.PrintWords Go.Proofs.YthmeocigliephaaGreatDoorW.PrintLast Go.Proofs.YthmeocigliephaaGreatDoorW.PrintMore
attribute [local go_sem] f64bits_run f64from_run run_float_some max2_int min2_int max_two min_two max_three min_three max_four min_four
def cusplaw05_SumsSplit.j0 : Nat → Nat → Nat → Nat → Nat → Bool → Option (Bool)
 | 0, _, _, _, _, _ => none
 | k + 1, x0, x1, x5, x6, x26 => if x26 = true then ((cusplaw05_same.f x6 (0 : Nat)).bind fun t213 => (if t213 = true then ((cusplaw05_sure.f).bind fun t214 => (some t214)) else (some false))) else ((cuspref01_Finite.f x6).bind fun t215 => (if t215 = true then ((cuspref02_Float.f k x0).bind fun bt216 => ((cuspref02_Float.f k x1).bind fun bt221 => ((cuspref02_Plus.f bt216.1 bt216.2.1 bt216.2.2 bt221.1 bt221.2.1 bt221.2.2).bind fun bt226 => ((cuspref02_Float.f k x5).bind fun bt232 => ((cuspref02_Float.f k x6).bind fun bt237 => ((cuspref02_Plus.f bt232.1 bt232.2.1 bt232.2.2 bt237.1 bt237.2.1 bt237.2.2).bind fun bt242 => ((cuspref02_Order.f k bt226.1 bt226.2.1 bt226.2.2 bt242.1 bt242.2.1 bt242.2.2).bind fun t247 => (if t247 = 0 then ((cusplaw05_sure.f).bind fun t248 => (some t248)) else (some false))))))))) else (some false)))
def cusplaw05_SumsSplit.f (k : Nat) (a0 : Nat) (a1 : Nat) : Option (Bool) := (sums_Two.f k a0 a1).bind fun bt208 => ((cuspref01_Finite.f a0).bind fun t210 => (if t210 = true then ((cuspref01_Finite.f a1).bind fun t211 => (if t211 = true then ((cuspref01_Finite.f bt208.1).bind fun t212 => (cusplaw05_SumsSplit.j0 k a0 a1 bt208.1 bt208.2 (!t212))) else (cusplaw05_SumsSplit.j0 k a0 a1 bt208.1 bt208.2 true))) else (cusplaw05_SumsSplit.j0 k a0 a1 bt208.1 bt208.2 true)))
def cusplaw05_twin.f (l0 : List Nat) : Option (List Nat) := if ([] : List Nat).length + l0.length < 17592186044416 then (some (([] : List Nat) ++ l0)) else (none)
end Go.Proofs.YthmeocigliephaaGreatDoor.PSv
end
section
namespace Go.Proofs.YthmeocigliephaaGreatDoor.PSv
open Go.Proofs.YthmeocigliephaaGreatDoor.PSu Go.RowKit Go.Proofs.YthmeocigliephaaGreatDoorW.PrintWords Go.Proofs.YthmeocigliephaaGreatDoorW.PrintLast Go.Proofs.YthmeocigliephaaGreatDoorW.PrintMore
attribute [local go_sem] f64bits_run f64from_run run_float_some max2_int min2_int max_two min_two max_three min_three max_four min_four
def cuspref05_Row.l0 : Nat → List Nat → Nat → Int → Option (Nat)
 | 0, _, _, _ => none
 | k + 1, x0, x3, x4 => if x4 < (x0.length : Int) then (if x4 = 0 then (if 0 < (x0.length : Int) then (cuspref05_Row.l0 k x0 (rdOf (0 : Nat) x0 0) (wrap64 (x4 + 1))) else (none)) else (if 0 ≤ x4 then ((cuspref05_add.f k x3 (rdOf (0 : Nat) x0 x4)).bind fun t254 => (cuspref05_Row.l0 k x0 t254 (wrap64 (x4 + 1)))) else (none))) else (some x3)
def cuspref05_Row.f (k : Nat) (l0 : List Nat) : Option (Nat) := cuspref05_Row.l0 k l0 (0 : Nat) 0
end Go.Proofs.YthmeocigliephaaGreatDoor.PSv
end
section
namespace Go.Proofs.YthmeocigliephaaGreatDoor.PSv
open Go.Proofs.YthmeocigliephaaGreatDoor.PSu Go.RowKit Go.Proofs.YthmeocigliephaaGreatDoorW.PrintWords Go.Proofs.YthmeocigliephaaGreatDoorW.PrintLast Go.Proofs.YthmeocigliephaaGreatDoorW.PrintMore
attribute [local go_sem] f64bits_run f64from_run run_float_some max2_int min2_int max_two min_two max_three min_three max_four min_four
def cuspref05_Halves.f : Nat → List Nat → Option (Nat)
 | 0, _ => none
 | k + 1, l0 => if (l0.length : Int) = 0 then (some (0 : Nat)) else (if (l0.length : Int) = 1 then (if 0 < (l0.length : Int) then (some (rdOf (0 : Nat) l0 0)) else (none)) else (if 0 ≤ (wrap64 ((l0.length : Int) / 2)) then (if (wrap64 ((l0.length : Int) / 2)) ≤ (l0.length : Int) then ((cuspref05_Halves.f k (l0.take ((wrap64 ((l0.length : Int) / 2)) : Int).toNat)).bind fun t257 => ((cuspref05_Halves.f k (l0.drop ((wrap64 ((l0.length : Int) / 2)) : Int).toNat)).bind fun t259 => ((cuspref05_add.f k t257 t259).bind fun t260 => (some t260)))) else (none)) else (none)))
end Go.Proofs.YthmeocigliephaaGreatDoor.PSv
end
section
namespace Go.Proofs.YthmeocigliephaaGreatDoor.PSv
open Go.Proofs.YthmeocigliephaaGreatDoor.PSu Go.RowKit Go.Proofs.YthmeocigliephaaGreatDoorW.PrintWords Go.Proofs.YthmeocigliephaaGreatDoorW.PrintLast Go.Proofs.YthmeocigliephaaGreatDoorW.PrintMore
attribute [local go_sem] f64bits_run f64from_run run_float_some max2_int min2_int max_two min_two max_three min_three max_four min_four
def cuspref01_Abs.f (a0 : Nat) : Option (Nat) := (cuspref01_mag.f a0).bind fun t261 => ((cuspref01_Of.f t261).bind fun t262 => (some t262))
theorem cuspref01_Abs.calls (a0 : Nat) (r : Nat) (w : World) (h : cuspref01_Abs.f a0 = some r) :
  Calls Tryz.prog 29 #[.float .f64 a0] w fun e w' => e = .returned (.float .f64 r) ∧ Drawn0 w w' := by
 have H := h
 clear h
 unfold cuspref01_Abs.f at H
 replace H := Option.bind_eq_some_iff.mp H
 obtain ⟨t261, A20, H⟩ := H
 have A2 := asd A20
 clear A20
 replace H := Option.bind_eq_some_iff.mp H
 obtain ⟨t262, A30, H⟩ := H
 have A3 := asd A30
 clear A30
 obtain rfl := Option.some.inj H
 go_enter Tryz.func29, Tryz.ntmps29
 go_wp2_with (first | ((with_reducible refine gate_callee (f := 62) rfl ?_); refine goesL_ (some 4) rfl rfl Tryz.func62 (by kernel_rfl) rfl #[.float .f64 a0] rfl eqA ?_; (with_reducible refine (cuspref01_mag.calls a0 t261 _ A2.out).mono ?_); rintro e w' ⟨rfl, ⟨nd, rfl⟩⟩; refine ⟨_, rfl, ?_⟩) | ((with_reducible refine gate_callee (f := 72) rfl ?_); refine goesL_ (some 5) rfl rfl Tryz.func72 (by kernel_rfl) rfl #[.int .u64 t261] rfl eqA ?_; (with_reducible refine (cuspref01_Of.calls t261 t262 _ A3.out).mono ?_); rintro e w' ⟨rfl, ⟨nd, rfl⟩⟩; refine ⟨_, rfl, ?_⟩))
 go_ret
 exact ⟨eqB, dn0⟩
end Go.Proofs.YthmeocigliephaaGreatDoor.PSv
end
section
namespace Go.Proofs.YthmeocigliephaaGreatDoor.PSv
open Go.Proofs.YthmeocigliephaaGreatDoor.PSu Go.RowKit Go.Proofs.YthmeocigliephaaGreatDoorW.PrintWords Go.Proofs.YthmeocigliephaaGreatDoorW.PrintLast Go.Proofs.YthmeocigliephaaGreatDoorW.PrintMore
attribute [local go_sem] f64bits_run f64from_run run_float_some max2_int min2_int max_two min_two max_three min_three max_four min_four
def cuspref01_Turned.f (a0 : Nat) : Option (Nat) := (cuspref01_Bits.f a0).bind fun t263 => ((cuspref01_Of.f (Go.bits .xor .u64 t263 9223372036854775808)).bind fun t264 => (some t264))
def cuspref03_Sub.f (k : Nat) (a0 : Nat) (a1 : Nat) (a2 : Int) : Option (Nat) := (cuspref01_IsNaN.f a1).bind fun t265 => (if t265 = true then ((cuspref01_Not.f).bind fun t266 => (some t266)) else ((cuspref01_Turned.f a1).bind fun t267 => ((cuspref03_Add.f k a0 t267 a2).bind fun t268 => (some t268))))
def cuspref05_sub.f (k : Nat) (a0 : Nat) (a1 : Nat) : Option (Nat) := (cuspref03_Sub.f k a0 a1 2).bind fun t269 => (some t269)
def cuspref05_Kept.l0 : Nat → List Nat → Nat → Nat → Int → Option (Nat)
 | 0, _, _, _, _ => none
 | k + 1, x0, x3, x4, x5 => if x5 < (x0.length : Int) then (if 0 ≤ x5 then ((cuspref05_add.f k x3 (rdOf (0 : Nat) x0 x5)).bind fun t272 => ((cuspref01_Abs.f x3).bind fun t273 => ((cuspref01_Abs.f (rdOf (0 : Nat) x0 x5)).bind fun t274 => (if ((FloatKind.f64.format.order t273 t274) == some .gt || (FloatKind.f64.format.order t273 t274) == some .eq) = true then ((cuspref05_sub.f k x3 t272).bind fun t275 => ((cuspref05_add.f k t275 (rdOf (0 : Nat) x0 x5)).bind fun t276 => ((cuspref05_add.f k x4 t276).bind fun t277 => (cuspref05_Kept.l0 k x0 t272 t277 (wrap64 (x5 + 1)))))) else ((cuspref05_sub.f k (rdOf (0 : Nat) x0 x5) t272).bind fun t278 => ((cuspref05_add.f k t278 x3).bind fun t279 => ((cuspref05_add.f k x4 t279).bind fun t280 => (cuspref05_Kept.l0 k x0 t272 t280 (wrap64 (x5 + 1)))))))))) else (none)) else ((cuspref05_add.f k x3 x4).bind fun t270 => (some t270))
def cuspref05_Kept.f (k : Nat) (l0 : List Nat) : Option (Nat) := cuspref05_Kept.l0 k l0 (0 : Nat) (0 : Nat) 0
def cusplaw05_all.l0 : Nat → List Nat → List Nat → Int → Option (Bool)
 | 0, _, _, _ => none
 | k + 1, x0, x1, x5 => if x5 < (x0.length : Int) then (if 0 ≤ x5 then (if x5 < (x1.length : Int) then ((cusplaw05_same.f (rdOf (0 : Nat) x0 x5) (rdOf (0 : Nat) x1 x5)).bind fun t283 => (if t283 = true then (cusplaw05_all.l0 k x0 x1 (wrap64 (x5 + 1))) else (some false))) else (none)) else (none)) else (some true)
def cusplaw05_all.f (k : Nat) (l0 : List Nat) (l1 : List Nat) : Option (Bool) := if (l0.length : Int) = (l1.length : Int) then (cusplaw05_all.l0 k l0 l1 0) else (some false)
def cusplaw05_SumsRows.f (k : Nat) (l0 : List Nat) : Option (Bool) := (cusplaw05_twin.f l0).bind fun t284 => ((sums_Row.f k t284).bind fun t287 => ((cuspref05_Row.f k l0).bind fun t288 => ((cusplaw05_same.f t287 t288).bind fun t289 => (if t289 = true then ((sums_Halves.f k t284).bind fun t290 => ((cuspref05_Halves.f k l0).bind fun t291 => ((cusplaw05_same.f t290 t291).bind fun t292 => (if t292 = true then ((sums_Kept.f k t284).bind fun t293 => ((cuspref05_Kept.f k l0).bind fun t294 => ((cusplaw05_same.f t293 t294).bind fun t295 => (if t295 = true then ((cusplaw05_all.f k t284 l0).bind fun t296 => (if t296 = true then ((cusplaw05_sure.f).bind fun t297 => (some t297)) else (some false))) else (some false))))) else (some false))))) else (some false)))))
end Go.Proofs.YthmeocigliephaaGreatDoor.PSv
end
section
namespace Go.Proofs.YthmeocigliephaaGreatDoor.Big
open Go.Proofs.YthmeocigliephaaGreatDoor.PSv Go.Proofs.YthmeocigliephaaGreatDoor.PSu Go.Proofs.YthmeocigliephaaGreatDoor.Plain Ieee
abbrev Wd (b : Nat) : Prop := b < 18446744073709551616
theorem rabs_law {b : Nat} (h : Wd b) : cuspref01_Abs.f b = some (absN b) := by
  unfold cuspref01_Abs.f
  rw [mag_law h, Option.bind_some]
  unfold cuspref01_Of.f
  rw [Option.bind_some, Int.toNat_natCast, absN_law h]
end Go.Proofs.YthmeocigliephaaGreatDoor.Big
end
section
namespace Go.Proofs.YthmeocigliephaaGreatDoor.Big
open Go.Proofs.YthmeocigliephaaGreatDoor.PSv Go.Proofs.YthmeocigliephaaGreatDoor.PSu Go.Proofs.YthmeocigliephaaGreatDoor.Plain
theorem apart_bad (A0 : Option Addr) (c0 : Nat) (l0 : List Nat) (w : World) (hr0 : Kd.C Kd.float w A0 l0.length l0) (hc0 : l0.length ≤ c0) (hn : l0.length < 4611686018427387904) (q : Int) (hq : q ≠ 0) (h3 : faultL l0 = q) :
    Calls Tryz.prog 28 #[.slice A0 l0.length c0] w fun e w' => ∃ v, e = .returned (.tuple #[v, .int .i64 q]) ∧ Kd.R Kd.float 25 w' w.heap.size (fun _ => True) v [] ∧ Below w.heap.size w w' := by
  have HR0 := asd hr0
  have HC0 := asd hc0
  have HN := asd hn
  have HB := asd (Below.refl w.heap.size w)
  have HF := asd h3
  have hqb : (q != 0) = true := bne_iff_ne.mpr hq
  clear hr0 hc0 h3 hn hq
  go_enter Tryz.func28, Tryz.ntmps28
  go_wp2_with (first
    | ((with_reducible refine gate_dst (N := 2) rfl ?_); refine box_event ?hg (N := 2) ?hd (cs := #[.slice none 0 0]) (t := 22) ?hr ?_; (case hd => rfl); (case hg => rfl); (case hr => first | (go_simp; done) | (go_simp; rfl)); intro b2 hg w1 hbox hb; have n1_ := asd (below_step HB.out hb); clear HB; have HB := n1_; clear n1_ hb; have K2 := asd hbox; clear hbox; have G2 := asd (by rw [hg]; exact Nat.le_refl _ : w.heap.size ≤ b2); clear hg)
    | ((with_reducible refine gate_dst (N := 3) rfl ?_); refine box_event ?hg (N := 3) ?hd (cs := #[.int .i64 0]) (t := 32) ?hr ?_; (case hd => rfl); (case hg => rfl); (case hr => first | (go_simp; done) | (go_simp; rfl)); intro b3 hg w2 hbox hb; have n1_ := asd (below_step HB.out hb); have n2_ := asd (blk_below K2.out hb); have N3 := asd (by rw [hg]; exact blk_lt K2.out : b2 < b3); clear HB K2; have HB := n1_; have K2 := n2_; clear n1_ n2_ hb; have K3 := asd hbox; clear hbox hg)
    | (go_at_call 50; refine (fault_one _ A0 c0 l0 q _ (by exact blk_cell (blk_new _ _) 0) (Kd.C_below HR0.out (below_alloc HB.out _)) HC0.out HN.out HF.out).mono ?_; rintro e3 w3 ⟨rfl, d⟩; have n1_ := asd (below_step (below_alloc HB.out _) d); have n2_ := asd (blk_below (blk_alloc K2.out _) d); have n3_ := asd (blk_below (blk_alloc K3.out _) d); clear HB K2 K3 d; have HB := n1_; have K2 := n2_; have K3 := n3_; clear n1_ n2_ n3_; have z2 := (blk_cell K2.out 0).trans rfl; have y2 := blk_frozen K2.out 0; have z3 := (blk_cell K3.out 0).trans rfl; have y3 := blk_frozen K3.out 0; have d23 : b2 ≠ b3 := Nat.ne_of_lt N3.out; have d32 : b3 ≠ b2 := Nat.ne_of_gt N3.out))
  have H3_ : w.heap.size ≤ b3 := Nat.le_trans G2.out (Nat.le_of_lt N3.out)
  have u2 := blk_far (blk_put (cs := #[.slice none 0 0]) K2.out 0 (.slice none 0 0) rfl) (p := ⟨b3, 0, none⟩) d23 (.int .i64 q)
  have u3 := blk_put (cs := #[.int .i64 0]) (blk_far K3.out (p := ⟨b2, 0, none⟩) d32 (.slice none 0 0)) 0 (.int .i64 q) rfl
  have z2 := (blk_cell u2 0).trans rfl
  have z3 := (blk_cell u3 0).trans rfl
  have v2 := blk_frozen u2 0
  have v3 := blk_frozen u3 0
  refine bodyPost_ret (v := .tuple #[.slice none 0 0, .int .i64 q]) (by simp [results, Tryz.results28, go_sem, z2, z3, v2, v3]) rfl ⟨_, rfl, Kd.R_nil _ _ _ _ _, below_set (below_set HB.out G2.out) H3_⟩
theorem apart_calls (A0 : Option Addr) (c0 : Nat) (l0 : List Nat) (w : World) (hr0 : Kd.C Kd.float w A0 l0.length l0) (hc0 : l0.length ≤ c0) (hn : l0.length < 4611686018427387904) (hw : ∀ b ∈ l0, b < 18446744073709551616) (hL : Laid w) (L : List Nat) (q : Int) (h : apartT l0 = (L, q)) :
    Calls Tryz.prog 28 #[.slice A0 l0.length c0] w fun e w' => ∃ v, e = .returned (.tuple #[v, .int .i64 q]) ∧ Kd.R Kd.float 25 w' w.heap.size (fun _ => True) v L ∧ Below w.heap.size w w' := by
  unfold apartT at h
  by_cases hf : faultL l0 = 0
  · rw [if_pos hf] at h
    obtain ⟨h1, h2⟩ := fault_zero hw hf
    obtain ⟨L', q', hL'⟩ := apart_sum h2 h1
    rw [hL'] at h
    cases h
    exact apart_ok 3000 (l0.length + 1) A0 c0 l0 w hr0 hc0 hn hL hf (sumZ l0) (total_law l0 h2 h1) L q hL'
  · rw [if_neg hf] at h
    cases h
    exact apart_bad A0 c0 l0 w hr0 hc0 hn _ hf rfl
end Go.Proofs.YthmeocigliephaaGreatDoor.Big
end
section
namespace Go.Proofs.YthmeocigliephaaGreatDoor.PSy
open Go.RowKit Go.Proofs.YthmeocigliephaaGreatDoorW.PrintWords Go.Proofs.YthmeocigliephaaGreatDoor.Big
theorem run_store_float {P : Program} {w : World} {a : Addr} {m : Mode} (k : FloatKind) (b : Nat) : (store a (.float k b) m).run P w = stored P w a (.float k b) m := run_store P w a _ m rfl
def cusplaw05_sure.f : Option Bool := some true
theorem cusplaw05_sure.calls (r : Bool) (w : World) (h : cusplaw05_sure.f = some r) (hL : Laid w := by exact Go.Proofs.YthmeocigliephaaGreatDoor.Big.Laid.step HL.out hbw) :
    Calls Tryz.prog 19 #[] w fun e w' => e = .returned (.bool r) ∧ Below w.heap.size w w' := by
  obtain rfl := Option.some.inj h
  exact sure_rel w hL
def sums_Apart.f (l0 : List Nat) : Option (List Nat × Int) := if l0.length < 4611686018427387904 ∧ ∀ b ∈ l0, b < 18446744073709551616 then some (apartT l0) else none
theorem sums_Apart.calls (A0 : Option Addr) (c0 : Nat) (l0 : List Nat) (r1 : List Nat) (r2 : Int) (w : World) (hr0 : Kd.C Kd.float w A0 l0.length l0) (hc0 : l0.length ≤ c0) (h : sums_Apart.f l0 = some (r1, r2)) (hL : Laid w := by exact Go.Proofs.YthmeocigliephaaGreatDoor.Big.Laid.step HL.out hbw) :
    Calls Tryz.prog 28 #[.slice A0 l0.length c0] w fun e w' => ∃ v0_ : Value, e = .returned (.tuple #[v0_, .int .i64 r2]) ∧ Kd.R Kd.float 25 w' w.heap.size (fun _ => True) v0_ r1 ∧ Below w.heap.size w w' := by
  unfold sums_Apart.f at h
  split at h
  · rename_i hf
    exact apart_calls A0 c0 l0 w hr0 hc0 hf.1 hf.2 hL r1 r2 (Option.some.inj h)
  · cases h
end Go.Proofs.YthmeocigliephaaGreatDoor.PSy
end
section
namespace Go.Proofs.YthmeocigliephaaGreatDoor.PSy
open Go.Proofs.YthmeocigliephaaGreatDoor.PSu Go.Proofs.YthmeocigliephaaGreatDoor.PSv Go.RowKit Go.Proofs.YthmeocigliephaaGreatDoorW.PrintWords Go.Proofs.YthmeocigliephaaGreatDoorW.PrintLast Go.Proofs.YthmeocigliephaaGreatDoorW.PrintMore
attribute [local go_sem] f64bits_run f64from_run run_float_some max2_int min2_int max_two min_two max_three min_three max_four min_four
def errW : Option Int → Value
 | none => .nilIface
 | some c => .iface 0 (.int .i64 c)
theorem errW_none : errW none = .nilIface := rfl
theorem errW_some (c : Int) : errW (some c) = .iface 0 (.int .i64 c) := rfl
theorem info25 : (Tryz.prog.info? 25).map (fun i => (i.zero, i.size, i.bytes)) = some (some (.float .f64 0), 1, 8) := by kernel_rfl
end Go.Proofs.YthmeocigliephaaGreatDoor.PSy
end
section
namespace Go.Proofs.YthmeocigliephaaGreatDoor.PSy
open Go.Proofs.YthmeocigliephaaGreatDoor.PSu Go.Proofs.YthmeocigliephaaGreatDoor.PSv Go.RowKit Go.Proofs.YthmeocigliephaaGreatDoorW.PrintWords Go.Proofs.YthmeocigliephaaGreatDoorW.PrintLast Go.Proofs.YthmeocigliephaaGreatDoorW.PrintMore
attribute [local go_sem] f64bits_run f64from_run run_float_some max2_int min2_int max_two min_two max_three min_three max_four min_four
def cuspref01_Endless.f (a0 : Bool) : Option (Nat) := if a0 = true then ((cuspref01_Of.f 18442240474082181120).bind fun t101 => (some t101)) else ((cuspref01_Of.f 9218868437227405312).bind fun t102 => (some t102))
theorem cuspref01_Endless.calls (a0 : Bool) (r : Nat) (w : World) (h : cuspref01_Endless.f a0 = some r) :
  Calls Tryz.prog 75 #[.bool a0] w fun e w' => e = .returned (.float .f64 r) ∧ Drawn0 w w' := by
 have H := h
 clear h
 unfold cuspref01_Endless.f at H
 by_cases c2 : a0 = true
 ·subst c2
  rw [if_pos rfl] at H
  replace H := Option.bind_eq_some_iff.mp H
  obtain ⟨t101, A30, H⟩ := H
  have A3 := asd A30
  clear A30
  obtain rfl := Option.some.inj H
  go_enter Tryz.func75, Tryz.ntmps75
  go_wp2_with (first | ((with_reducible refine gate_callee (f := 72) rfl ?_); refine goesL_ (some 4) rfl rfl Tryz.func72 (by kernel_rfl) rfl #[.int .u64 18442240474082181120] rfl eqA ?_; (with_reducible refine (cuspref01_Of.calls 18442240474082181120 t101 _ A3.out).mono ?_); rintro e w' ⟨rfl, ⟨nd, rfl⟩⟩; refine ⟨_, rfl, ?_⟩))
  go_ret
  exact ⟨eqB, dn0⟩
 ·replace c2 := Bool.eq_false_iff.mpr c2
  subst c2
  rw [if_neg (show ¬ (false = true) by decide)] at H
  replace H := Option.bind_eq_some_iff.mp H
  obtain ⟨t102, A40, H⟩ := H
  have A4 := asd A40
  clear A40
  obtain rfl := Option.some.inj H
  go_enter Tryz.func75, Tryz.ntmps75
  go_wp2_with (first | ((with_reducible refine gate_callee (f := 72) rfl ?_); refine goesL_ (some 5) rfl rfl Tryz.func72 (by kernel_rfl) rfl #[.int .u64 9218868437227405312] rfl eqA ?_; (with_reducible refine (cuspref01_Of.calls 9218868437227405312 t102 _ A4.out).mono ?_); rintro e w' ⟨rfl, ⟨nd, rfl⟩⟩; refine ⟨_, rfl, ?_⟩))
  go_ret
  exact ⟨eqB, dn0⟩
end Go.Proofs.YthmeocigliephaaGreatDoor.PSy
end
section
namespace Go.Proofs.YthmeocigliephaaGreatDoor.PSy
open Go.Proofs.YthmeocigliephaaGreatDoor.PSu Go.Proofs.YthmeocigliephaaGreatDoor.PSv Go.RowKit Go.Proofs.YthmeocigliephaaGreatDoorW.PrintWords Go.Proofs.YthmeocigliephaaGreatDoorW.PrintLast Go.Proofs.YthmeocigliephaaGreatDoorW.PrintMore
attribute [local go_sem] f64bits_run f64from_run run_float_some max2_int min2_int max_two min_two max_three min_three max_four min_four
def cuspref01_Parts.f (a0 : Nat) : Option (Int × Int) := (cuspref01_mag.f a0).bind fun t103 => (if (wrap64 (t103 / 4503599627370496)) = 0 then (some (Go.bits .and .u64 t103 4503599627370495, (-1074))) else (some (Go.bits .or .u64 (Go.bits .and .u64 t103 4503599627370495) 4503599627370496, wrap64 ((wrap64 (t103 / 4503599627370496)) - 1075))))
theorem cuspref01_Parts.calls (a0 : Nat) (r1 : Int) (r2 : Int) (w : World) (h : cuspref01_Parts.f a0 = some (r1, r2)) :
  Calls Tryz.prog 76 #[.float .f64 a0] w fun e w' => e = .returned (.tuple #[.int .u64 r1, .int .i64 r2]) ∧ Drawn0 w w' := by
 have H := h
 clear h
 unfold cuspref01_Parts.f at H
 replace H := Option.bind_eq_some_iff.mp H
 obtain ⟨t103, A20, H⟩ := H
 have A2 := asd A20
 clear A20
 by_cases c3 : (wrap64 (t103 / 4503599627370496)) = 0
 ·rw [if_pos c3] at H
  have c3b0 := beq_iff_eq.mpr c3
  have c3b1 := bne_eq_false_iff_eq.mpr c3
  clear c3
  simp only [Option.some.injEq, Prod.mk.injEq] at H
  obtain ⟨rfl, rfl⟩ := H
  go_enter Tryz.func76, Tryz.ntmps76
  go_wp2_with (first | ((with_reducible refine gate_callee (f := 62) rfl ?_); refine goesL_ (some 8) rfl rfl Tryz.func62 (by kernel_rfl) rfl #[.float .f64 a0] rfl eqA ?_; (with_reducible refine (cuspref01_mag.calls a0 t103 _ A2.out).mono ?_); rintro e w' ⟨rfl, ⟨nd, rfl⟩⟩; refine ⟨_, rfl, ?_⟩))
  go_ret2
  exact ⟨eqB, dn0⟩
 ·rw [if_neg c3] at H
  have c3b0 := beq_eq_false_iff_ne.mpr c3
  have c3b1 := bne_iff_ne.mpr c3
  simp only [Option.some.injEq, Prod.mk.injEq] at H
  obtain ⟨rfl, rfl⟩ := H
  go_enter Tryz.func76, Tryz.ntmps76
  go_wp2_with (first | ((with_reducible refine gate_callee (f := 62) rfl ?_); refine goesL_ (some 8) rfl rfl Tryz.func62 (by kernel_rfl) rfl #[.float .f64 a0] rfl eqA ?_; (with_reducible refine (cuspref01_mag.calls a0 t103 _ A2.out).mono ?_); rintro e w' ⟨rfl, ⟨nd, rfl⟩⟩; refine ⟨_, rfl, ?_⟩))
  go_ret2
  exact ⟨eqB, dn0⟩
def cuspref01_Unit.f (a0 : Nat) : Option (Nat) := (cuspref01_IsNaN.f a0).bind fun t104 => (if t104 = true then (some a0) else ((cuspref01_IsInf.f a0).bind fun t105 => (if t105 = true then ((cuspref01_Endless.f false).bind fun t106 => (some t106)) else ((cuspref01_Parts.f a0).bind fun bt107 => (if bt107.2 ≥ (-1022) then ((cuspref01_Of.f (IntKind.u64.wrap ((IntKind.u64.wrap (wrap64 (bt107.2 + 1023))) * 4503599627370496))).bind fun t109 => (some t109)) else (if 0 ≤ (IntKind.u64.wrap (wrap64 (bt107.2 + 1074))) then ((cuspref01_Of.f (shl .u64 1 (IntKind.u64.wrap (wrap64 (bt107.2 + 1074))))).bind fun t110 => (some t110)) else (none)))))))
theorem cuspref01_Unit.calls (a0 : Nat) (r : Nat) (w : World) (h : cuspref01_Unit.f a0 = some r) :
  Calls Tryz.prog 30 #[.float .f64 a0] w fun e w' => e = .returned (.float .f64 r) ∧ Drawn0 w w' := by
 have H := h
 clear h
 unfold cuspref01_Unit.f at H
 replace H := Option.bind_eq_some_iff.mp H
 obtain ⟨t104, A20, H⟩ := H
 have A2 := asd A20
 clear A20
 by_cases c3 : t104 = true
 ·subst c3
  rw [if_pos rfl] at H
  obtain rfl := Option.some.inj H
  go_enter Tryz.func30, Tryz.ntmps30
  go_wp2_with (first | ((with_reducible refine gate_callee (f := 73) rfl ?_); refine goesL_ (some 7) rfl rfl Tryz.func73 (by kernel_rfl) rfl #[.float .f64 a0] rfl eqA ?_; (with_reducible refine (cuspref01_IsNaN.calls a0 true _ A2.out).mono ?_); rintro e w' ⟨rfl, ⟨nd, rfl⟩⟩; refine ⟨_, rfl, ?_⟩))
  go_ret
  exact ⟨eqB, dn0⟩
 ·replace c3 := Bool.eq_false_iff.mpr c3
  subst c3
  rw [if_neg (show ¬ (false = true) by decide)] at H
  replace H := Option.bind_eq_some_iff.mp H
  obtain ⟨t105, A40, H⟩ := H
  have A4 := asd A40
  clear A40
  by_cases c5 : t105 = true
  ·subst c5
   rw [if_pos rfl] at H
   replace H := Option.bind_eq_some_iff.mp H
   obtain ⟨t106, A60, H⟩ := H
   have A6 := asd A60
   clear A60
   obtain rfl := Option.some.inj H
   go_enter Tryz.func30, Tryz.ntmps30
   go_wp2_with (first | ((with_reducible refine gate_callee (f := 73) rfl ?_); refine goesL_ (some 7) rfl rfl Tryz.func73 (by kernel_rfl) rfl #[.float .f64 a0] rfl eqA ?_; (with_reducible refine (cuspref01_IsNaN.calls a0 false _ A2.out).mono ?_); rintro e w' ⟨rfl, ⟨nd, rfl⟩⟩; refine ⟨_, rfl, ?_⟩) | ((with_reducible refine gate_callee (f := 74) rfl ?_); refine goesL_ (some 11) rfl rfl Tryz.func74 (by kernel_rfl) rfl #[.float .f64 a0] rfl eqA ?_; (with_reducible refine (cuspref01_IsInf.calls a0 true _ A4.out).mono ?_); rintro e w' ⟨rfl, ⟨nd, rfl⟩⟩; refine ⟨_, rfl, ?_⟩) | ((with_reducible refine gate_callee (f := 75) rfl ?_); refine goesL_ (some 12) rfl rfl Tryz.func75 (by kernel_rfl) rfl #[.bool false] rfl eqA ?_; (with_reducible refine (cuspref01_Endless.calls false t106 _ A6.out).mono ?_); rintro e w' ⟨rfl, ⟨nd, rfl⟩⟩; refine ⟨_, rfl, ?_⟩))
   go_ret
   exact ⟨eqB, dn0⟩
  ·replace c5 := Bool.eq_false_iff.mpr c5
   subst c5
   rw [if_neg (show ¬ (false = true) by decide)] at H
   replace H := Option.bind_eq_some_iff.mp H
   obtain ⟨⟨t107, t108⟩, A70, H⟩ := H
   replace H : (if t108 ≥ (-1022) then ((cuspref01_Of.f (IntKind.u64.wrap ((IntKind.u64.wrap (wrap64 (t108 + 1023))) * 4503599627370496))).bind fun t109 => (some t109)) else (if 0 ≤ (IntKind.u64.wrap (wrap64 (t108 + 1074))) then ((cuspref01_Of.f (shl .u64 1 (IntKind.u64.wrap (wrap64 (t108 + 1074))))).bind fun t110 => (some t110)) else (none))) = some r := H
   have A7 := asd A70
   clear A70
   by_cases c8 : t108 ≥ (-1022)
   ·rw [if_pos c8] at H
    have c8b0 := decide_eq_true c8
    clear c8
    replace H := Option.bind_eq_some_iff.mp H
    obtain ⟨t109, A90, H⟩ := H
    have A9 := asd A90
    clear A90
    obtain rfl := Option.some.inj H
    go_enter Tryz.func30, Tryz.ntmps30
    go_wp2_with (first | ((with_reducible refine gate_callee (f := 73) rfl ?_); refine goesL_ (some 7) rfl rfl Tryz.func73 (by kernel_rfl) rfl #[.float .f64 a0] rfl eqA ?_; (with_reducible refine (cuspref01_IsNaN.calls a0 false _ A2.out).mono ?_); rintro e w' ⟨rfl, ⟨nd, rfl⟩⟩; refine ⟨_, rfl, ?_⟩) | ((with_reducible refine gate_callee (f := 74) rfl ?_); refine goesL_ (some 11) rfl rfl Tryz.func74 (by kernel_rfl) rfl #[.float .f64 a0] rfl eqA ?_; (with_reducible refine (cuspref01_IsInf.calls a0 false _ A4.out).mono ?_); rintro e w' ⟨rfl, ⟨nd, rfl⟩⟩; refine ⟨_, rfl, ?_⟩) | ((with_reducible refine gate_callee (f := 76) rfl ?_); refine goesL_ (some 15) rfl rfl Tryz.func76 (by kernel_rfl) rfl #[.float .f64 a0] rfl eqA ?_; (with_reducible refine (cuspref01_Parts.calls a0 t107 t108 _ A7.out).mono ?_); rintro e w' ⟨rfl, ⟨nd, rfl⟩⟩; refine ⟨_, rfl, ?_⟩) | ((with_reducible refine gate_callee (f := 72) rfl ?_); refine goesL_ (some 24) rfl rfl Tryz.func72 (by kernel_rfl) rfl #[.int .u64 (IntKind.u64.wrap ((IntKind.u64.wrap (wrap64 (t108 + 1023))) * 4503599627370496))] rfl eqA ?_; (with_reducible refine (cuspref01_Of.calls (IntKind.u64.wrap ((IntKind.u64.wrap (wrap64 (t108 + 1023))) * 4503599627370496)) t109 _ A9.out).mono ?_); rintro e w' ⟨rfl, ⟨nd, rfl⟩⟩; refine ⟨_, rfl, ?_⟩))
    go_ret
    exact ⟨eqB, dn0⟩
   ·rw [if_neg c8] at H
    have c8b0 := decide_eq_false c8
    clear c8
    obtain ⟨ji10, hji10⟩ : ∃ j_ : Int, (IntKind.u64.wrap (wrap64 (t108 + 1074))) = j_ := ⟨_, rfl⟩
    first | rw [hji10] at H | simp only [hji10] at H ⊢
    (try rw [hji10] at A2)
    (try rw [hji10] at A4)
    (try rw [hji10] at A7)
    by_cases c11 : 0 ≤ (ji10)
    ·rw [if_pos c11] at H
     have c11b0 := eq_true c11
     have c11b1 := decide_eq_true c11
     clear c11
     obtain ⟨ji12, hji12⟩ : ∃ j_ : Int, (shl .u64 1 (ji10)) = j_ := ⟨_, rfl⟩
     first | rw [hji12] at H | simp only [hji12] at H ⊢
     (try rw [hji12] at A2)
     (try rw [hji12] at A4)
     (try rw [hji12] at A7)
     have hji12_ : (IntKind.u64.wrap (1 * 2 ^ min (ji10).toNat 64)) = ji12 := hji12
     have hji12z : (ji10) ≤ 64 → (IntKind.u64.wrap (1 * 2 ^ (ji10).toNat)) = ji12 := shl_small hji12
     have hji12u : (IntKind.u64.wrap (2 ^ min (ji10).toNat 64)) = ji12 := by have h_ := hji12_; rw [Int.one_mul] at h_; exact h_
     have hji12v : (ji10) ≤ 64 → (IntKind.u64.wrap (2 ^ (ji10).toNat)) = ji12 := fun hle_ => by have h_ := hji12z hle_; rw [Int.one_mul] at h_; exact h_
     replace H := Option.bind_eq_some_iff.mp H
     obtain ⟨t110, A130, H⟩ := H
     have A13 := asd A130
     clear A130
     obtain rfl := Option.some.inj H
     go_enter Tryz.func30, Tryz.ntmps30
     go_wp2_with (first | ((with_reducible refine gate_callee (f := 73) rfl ?_); refine goesL_ (some 7) rfl rfl Tryz.func73 (by kernel_rfl) rfl #[.float .f64 a0] rfl eqA ?_; (with_reducible refine (cuspref01_IsNaN.calls a0 false _ A2.out).mono ?_); rintro e w' ⟨rfl, ⟨nd, rfl⟩⟩; refine ⟨_, rfl, ?_⟩) | ((with_reducible refine gate_callee (f := 74) rfl ?_); refine goesL_ (some 11) rfl rfl Tryz.func74 (by kernel_rfl) rfl #[.float .f64 a0] rfl eqA ?_; (with_reducible refine (cuspref01_IsInf.calls a0 false _ A4.out).mono ?_); rintro e w' ⟨rfl, ⟨nd, rfl⟩⟩; refine ⟨_, rfl, ?_⟩) | ((with_reducible refine gate_callee (f := 76) rfl ?_); refine goesL_ (some 15) rfl rfl Tryz.func76 (by kernel_rfl) rfl #[.float .f64 a0] rfl eqA ?_; (with_reducible refine (cuspref01_Parts.calls a0 t107 t108 _ A7.out).mono ?_); rintro e w' ⟨rfl, ⟨nd, rfl⟩⟩; refine ⟨_, rfl, ?_⟩) | ((with_reducible refine gate_callee (f := 72) rfl ?_); refine goesL_ (some 29) rfl rfl Tryz.func72 (by kernel_rfl) rfl #[.int .u64 ji12] rfl (by (try simp only [List.map_toArray, List.map_cons, List.map_nil]); first | done | (simp only [hji12]; rfl) | rfl | (simp only [List.length_drop, List.length_take]; rfl)) ?_; (with_reducible refine (cuspref01_Of.calls ji12 t110 _ A13.out).mono ?_); rintro e w' ⟨rfl, ⟨nd, rfl⟩⟩; refine ⟨_, rfl, ?_⟩))
     go_ret
     exact ⟨by first | rfl | (simp; done) | (simp only [← hji10, ← hji12] <;> (first | rfl | simp)) | (simp [*]; done), dn0⟩
    ·rw [if_neg c11] at H
     exact absurd H (by simp)
end Go.Proofs.YthmeocigliephaaGreatDoor.PSy
end
section
namespace Go.Proofs.YthmeocigliephaaGreatDoor.Big
open Go.Proofs.YthmeocigliephaaGreatDoor.PSv Go.Proofs.YthmeocigliephaaGreatDoor.PSu Go.Proofs.YthmeocigliephaaGreatDoor.Plain Ieee
theorem sumZ_perm {l m : List Nat} (h : l.Perm m) : sumZ l = sumZ m := by
  induction h with
  | nil => rfl
  | cons x _ ih => rw [sumZ, sumZ, ih]
  | swap x y l => simp only [sumZ]; omega
  | trans _ _ h1 h2 => exact h1.trans h2
theorem any_perm {p : Nat → Bool} {l m : List Nat} (h : l.Perm m) : l.any p = m.any p := by
  rw [Bool.eq_iff_iff, List.any_eq_true, List.any_eq_true]
  exact ⟨fun ⟨x, hx, hp⟩ => ⟨x, h.mem_iff.1 hx, hp⟩, fun ⟨x, hx, hp⟩ => ⟨x, h.mem_iff.2 hx, hp⟩⟩
theorem exact_perm {l m : List Nat} (h : m.Perm l) (mode : Int) : sums_Exact.f m mode = sums_Exact.f l mode := by
  have hf : faultL m = faultL l := by unfold faultL; rw [h.length_eq, any_perm h, any_perm h]
  have hw : (∀ b ∈ m, b < 18446744073709551616) ↔ (∀ b ∈ l, b < 18446744073709551616) := ⟨fun g b hb => g b (h.mem_iff.2 hb), fun g b hb => g b (h.mem_iff.1 hb)⟩
  have he : exactW m mode (canN (sumZ m) (-1074)) = exactW l mode (canN (sumZ l) (-1074)) := by unfold exactW; rw [hf, sumZ_perm h, h.length_eq, any_perm h]
  unfold sums_Exact.f
  rw [he, h.length_eq]
  by_cases hc : l.length < 4611686018427387904 ∧ ∀ b ∈ l, b < 18446744073709551616
  · rw [if_pos hc, if_pos ⟨hc.1, hw.2 hc.2⟩]
  · rw [if_neg hc, if_neg (fun g => hc ⟨g.1, hw.1 g.2⟩)]
def unitB (E : Nat) : Nat := if E < 52 then 2 ^ E else (E - 51) * 4503599627370496
theorem unitB_half {E : Nat} (h : E < 2046) : floatBits .quo .f64 (unitB (E + 1)) 4611686018427387904 = some (unitB E) := by
  have : (List.range 2046).all (fun E => floatBits .quo .f64 (unitB (E + 1)) 4611686018427387904 == some (unitB E)) = true := by decide +kernel
  exact beq_iff_eq.1 (List.all_eq_true.1 this E (List.mem_range.2 h))
theorem unitB_flz {E : Nat} (h : E < 2098) : Fin64 (unitB E) ∧ flz (unitB E) = ((2 ^ E : Nat) : Int) := by
  have key : unitB E < infB ∧ magN (unitB E) = 2 ^ E := by
    unfold unitB
    by_cases hE : E < 52
    · rw [if_pos hE]
      have hp : 2 ^ E < 4503599627370496 := by rw [← h52]; exact Nat.pow_lt_pow_right (by omega) hE
      have := bits_val (m := 2 ^ E) (K := 0) (by omega) (.inr rfl) (by omega)
      rw [Nat.zero_mul, Nat.zero_add] at this
      exact ⟨by unfold infB; omega, by rw [this, Nat.pow_zero, Nat.mul_one]⟩
    · rw [if_neg hE]
      have := bits_val (m := 4503599627370496) (K := E - 52) (by omega) (.inl (by omega)) (by omega)
      rw [show (E - 51) * 4503599627370496 = (E - 52) * 4503599627370496 + 4503599627370496 by omega]
      exact ⟨by unfold infB; omega, by rw [this, ← h52, ← Nat.pow_add]; congr 1; omega⟩
  have := flz_sign key.1 false
  rw [show signV false (unitB E) = unitB E from rfl] at this
  exact ⟨this.1, by rw [this.2, if_neg (by decide), key.2]⟩
def unitE (f : Nat) : Nat := (expoV f + 1074).toNat
theorem unitE_lt {f : Nat} (h : Fin64 f) : unitE f < 2046 := by have := expoV_range h; unfold unitE; omega
theorem runit_law {f : Nat} (h : Fin64 f) : PSy.cuspref01_Unit.f f = some (unitB (unitE f)) := by
  have h1 : nanB f = false := by rw [nan_law h.1]; exact decide_eq_false (by have := h.2; omega)
  have h2 : infB? f = false := by rw [inf_law h.1, beq_eq_false_iff_ne]; have := h.2; omega
  have hx : ((f % 9223372036854775808 : Nat) : Int) / 4503599627370496 = ((expo f : Nat) : Int) := by unfold expo; omega
  have hlt : expo f < 2047 := by have := h.2; unfold expo; omega
  have hp : ∃ m, PSy.cuspref01_Parts.f f = some (m, if expo f = 0 then (-1074 : Int) else (expo f : Int) - 1075) := by
    unfold PSy.cuspref01_Parts.f
    rw [mag_law h.1, Option.bind_some, hx, w64_of (by omega) (by omega)]
    by_cases h0 : expo f = 0
    · rw [if_pos (by omega), if_pos h0]; exact ⟨_, rfl⟩
    · rw [if_neg (by omega), if_neg h0, w64_of (by omega) (by omega)]; exact ⟨_, rfl⟩
  obtain ⟨m, hp⟩ := hp
  unfold PSy.cuspref01_Unit.f
  rw [risnan_law h.1, h1, Option.bind_some, if_neg (by decide), risinf_law h.1, h2, Option.bind_some, if_neg (by decide), hp, Option.bind_some]
  have all : (List.range 2047).all (fun x => (if (if x = 0 then (-1074 : Int) else (x : Int) - 1075) ≥ (-1022) then ((cuspref01_Of.f (IntKind.u64.wrap ((IntKind.u64.wrap (wrap64 ((if x = 0 then (-1074 : Int) else (x : Int) - 1075) + 1023))) * 4503599627370496))).bind fun t109 => (some t109)) else (if 0 ≤ (IntKind.u64.wrap (wrap64 ((if x = 0 then (-1074 : Int) else (x : Int) - 1075) + 1074))) then ((cuspref01_Of.f (shl .u64 1 (IntKind.u64.wrap (wrap64 ((if x = 0 then (-1074 : Int) else (x : Int) - 1075) + 1074))))).bind fun t110 => (some t110)) else (none))) == some (unitB (((if x = 0 then (1 : Int) else (x : Int)) - 1075 + 1074).toNat))) = true := by decide +kernel
  have := beq_iff_eq.1 (List.all_eq_true.1 all (expo f) (List.mem_range.2 hlt))
  simp only at this ⊢
  rw [this]
  rfl
theorem abs_flz {b : Nat} (h : Fin64 b) : Fin64 (b % 9223372036854775808) ∧ flz (b % 9223372036854775808) = ((flz b).natAbs : Int) := by
  have e1 : expo (b % 9223372036854775808) = expo b := by unfold expo; omega
  have e2 : frac (b % 9223372036854775808) = frac b := by unfold frac; omega
  have e3 : manti (b % 9223372036854775808) = manti b := by unfold manti; rw [e1, e2]
  have e4 : expoV (b % 9223372036854775808) = expoV b := by unfold expoV; rw [e1]
  refine ⟨⟨by omega, by have := h.2; omega⟩, ?_⟩
  unfold flz floV
  rw [e3, e4, show sgn (b % 9223372036854775808) = false from decide_eq_false (by omega), if_neg (by decide), Int.natAbs_mul, Int.natAbs_pow]
  rw [show (if sgn b = true then -(manti b : Int) else (manti b : Int)).natAbs = manti b by split <;> omega]
  rw [Int.natCast_mul, Int.natCast_pow]
  rfl
theorem not_inf {z : Int} (hz : z ≠ 0) (hi : infB? (rndZ z 2) = false) : magV z.natAbs (-1074) false true < infB := by
  have hle := magV_le z.natAbs (-1074) false true (show z.natAbs ≠ 0 by omega)
  refine Nat.lt_of_le_of_ne hle (fun he => ?_)
  rw [rnd_eq hz, he] at hi
  revert hi
  cases decide (z < 0) <;> decide +kernel
theorem half_err {z : Int} (hz : z ≠ 0) (hi : infB? (rndZ z 2) = false) : 2 * (z - flz (rndZ z 2)).natAbs ≤ 2 ^ unitE (rndZ z 2) ∧ (z - flz (rndZ z 2) ≠ 0 → 1 ≤ unitE (rndZ z 2)) := by
  have hlt := not_inf hz hi
  have hn : z.natAbs ≠ 0 := by omega
  have hv := (magV_val z.natAbs hn).1 hlt
  obtain ⟨f1, f2⟩ := flz_sign hlt (decide (z < 0))
  have hE : unitE (rndZ z 2) = unitE (magV z.natAbs (-1074) false true) := by
    rw [rnd_eq hz]
    unfold unitE expoV
    have : expo (signV (decide (z < 0)) (magV z.natAbs (-1074) false true)) = expo (magV z.natAbs (-1074) false true) := by
      unfold infB at hlt
      cases decide (z < 0)
      · rfl
      · show expo (magV z.natAbs (-1074) false true + 9223372036854775808) = _
        unfold expo; omega
    rw [this]
  have herr : (z - flz (rndZ z 2)).natAbs = ((z.natAbs : Int) - ((qN z.natAbs * 2 ^ (bl z.natAbs - 53) : Nat) : Int)).natAbs := by
    rw [rnd_eq hz, f2, hv]
    by_cases hneg : z < 0
    · rw [if_pos (decide_eq_true hneg)]; omega
    · rw [if_neg (by simpa using hneg)]; omega
  have hq := qN_err z.natAbs
  rw [hE]
  by_cases h0 : bl z.natAbs - 53 = 0
  · rw [h0] at hq
    have h1 := bl_le.1 hq
    have h2 : (z - flz (rndZ z 2)).natAbs = 0 := by rw [herr, h0]; omega
    exact ⟨by rw [h2]; exact Nat.zero_le _, fun h => absurd h (by omega)⟩
  · obtain ⟨k, hk⟩ : ∃ k, bl z.natAbs - 53 = k := ⟨_, rfl⟩
    rw [hk] at herr hv h0
    have n1 := nearest z.natAbs k (by omega) ((z.natAbs / 2 ^ k : Nat) : Int)
    have n2 := nearest z.natAbs k (by omega) ((z.natAbs / 2 ^ k + 1 : Nat) : Int)
    have hqN : qN z.natAbs = z.natAbs / 2 ^ k + if incV z.natAbs k false true = true then 1 else 0 := by unfold qN; rw [hk]
    rw [← hqN, ← Int.natCast_mul, ← Int.natCast_mul, ← herr] at n1 n2
    have hd := Nat.div_add_mod z.natAbs (2 ^ k)
    have hr := Nat.mod_lt z.natAbs (show 2 ^ k > 0 from Nat.pow_pos (by omega))
    rw [Nat.mul_comm] at hd
    rw [Nat.add_mul, Nat.one_mul] at n2
    have h2 : 2 * (z - flz (rndZ z 2)).natAbs ≤ 2 ^ k := by omega
    have hge : 2 ^ 52 ≤ qN z.natAbs := by
      have : 2 ^ (52 + k) ≤ z.natAbs := Nat.le_of_not_lt fun h => by have := bl_le.2 h; omega
      rw [Nat.pow_add] at this
      have := (Nat.le_div_iff_mul_le (Nat.pow_pos (by omega))).2 this
      rw [hqN]; omega
    have hkE : k ≤ unitE (magV z.natAbs (-1074) false true) := by
      refine Nat.le_of_not_lt fun h => ?_
      have hm := manti_lt (magV z.natAbs (-1074) false true)
      unfold magN at hv
      rw [show (expoV (magV z.natAbs (-1074) false true) + 1074).toNat = unitE (magV z.natAbs (-1074) false true) from rfl] at hv
      generalize unitE (magV z.natAbs (-1074) false true) = E at h hv
      have hs : 2 ^ k = 2 ^ (k - E) * 2 ^ E := by rw [← Nat.pow_add]; congr 1; omega
      rw [hs, ← Nat.mul_assoc] at hv
      have hv2 := Nat.eq_of_mul_eq_mul_right (Nat.pow_pos (by omega)) hv
      have h3 : 2 ^ 1 ≤ 2 ^ (k - E) := Nat.pow_le_pow_right (by omega) (by omega)
      have h4 : 2 ^ 52 * 2 ^ 1 ≤ qN z.natAbs * 2 ^ (k - E) := Nat.mul_le_mul hge h3
      rw [← hv2, h52] at h4
      omega
    exact ⟨Nat.le_trans h2 (Nat.pow_le_pow_right (by omega) hkE), fun _ => by omega⟩
theorem rnd_pow {z : Int} {E : Nat} (hz : z ≠ 0) (hi : infB? (rndZ z 2) = false) (h : z.natAbs ≤ 2 ^ E) : (flz (rndZ z 2)).natAbs ≤ 2 ^ E := by
  have hlt := not_inf hz hi
  have hn : z.natAbs ≠ 0 := by omega
  have hv := (magV_val z.natAbs hn).1 hlt
  obtain ⟨f1, f2⟩ := flz_sign hlt (decide (z < 0))
  have habs : (flz (rndZ z 2)).natAbs = qN z.natAbs * 2 ^ (bl z.natAbs - 53) := by
    rw [rnd_eq hz, f2, ← hv]
    split <;> omega
  rw [habs]
  have hq := qN_err z.natAbs
  by_cases h0 : bl z.natAbs - 53 = 0
  · rw [h0] at hq ⊢
    have h1 := bl_le.1 hq
    omega
  · obtain ⟨k, hk⟩ : ∃ k, bl z.natAbs - 53 = k := ⟨_, rfl⟩
    rw [hk] at h0 ⊢
    have hb : bl z.natAbs ≤ E + 1 := bl_le.2 (Nat.lt_of_le_of_lt h (Nat.pow_lt_pow_right (by omega) (by omega)))
    have n1 := nearest z.natAbs k (by omega) ((2 ^ (E - k) : Nat) : Int)
    have hqN : qN z.natAbs = z.natAbs / 2 ^ k + if incV z.natAbs k false true = true then 1 else 0 := by unfold qN; rw [hk]
    rw [← hqN, ← Int.natCast_mul, ← Int.natCast_mul, ← Nat.pow_add, show E - k + k = E by omega] at n1
    omega
theorem apartL_pre : ∀ {k : Nat} {pre : List Nat} {z : Int} {L : List Nat}, apartL k pre z = some (L, 0) → ∃ s, L = pre ++ s
  | 0, _, _, _, h => by cases h
  | k + 1, pre, z, L, h => by
    rw [apartL] at h
    split at h
    · cases h; exact ⟨[], by simp⟩
    · split at h
      · split at h
        · cases h
        · split at h
          · obtain ⟨s, hs⟩ := apartL_pre h
            exact ⟨rndZ z 2 :: s, by rw [hs]; simp⟩
          · cases h
      · cases h
end Go.Proofs.YthmeocigliephaaGreatDoor.Big
end
