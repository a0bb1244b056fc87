/- Parts of the proof, behind one another; unused words are left out. -/
import Derived.Test.YthmeocigliephaaGreatDoorXl03
import Derived.ArgAppend
import Derived.Below
import Derived.BigQuiet
import Derived.Deep.AppendLies
import Derived.Deep.CutBlock
import Derived.Deep.DeepCutAuto
import Derived.Deep.Draws
import Derived.Deep.LoopGhost
import Derived.Deep.OwnRows
import Derived.Deep.QuietTactic
import Derived.Deep.RegionHeld3
import Derived.KernelRfl
import Derived.Laws.BitsLemmas
import Derived.Laws.BytesArg
import Derived.Laws.IdiomCopy
import Derived.Laws.MakeOwn
import Derived.Laws.OwnMore
import Derived.Laws.Rows
import Derived.Laws.Slices
import Derived.Lib.AppendStr
import Derived.Lib.ConvBytes
import Derived.LoopIn
import Derived.LoopNIn
import Derived.Maps.AppendAt
import Derived.Maps.OwnIn
import Derived.OrdersHeld
import Derived.OwnWalk
import Derived.OwnWalkIn
import Derived.RangeFuncBound
import Derived.RangeFuncCalls
import Derived.RangeFuncLeaves
import Derived.RangeFuncNested
import Derived.RowKit
import Derived.RowKit3
import Derived.Shelf.Abstract
import Derived.Shelf.RegionOpen
import Derived.Tactics
import Derived.TacticsInMore
import Derived.WalkKit
import Derived.WideLaws
import Derived.Test.YthmeocigliephaaGreatDoorProg
set_option linter.unusedVariables false
set_option linter.unusedSimpArgs false
set_option linter.unusedSectionVars false
set_option exponentiation.threshold 100000
set_option maxRecDepth 100000
set_option maxHeartbeats 8000000
open Go.RowKit Go.Proofs.YthmeocigliephaaGreatDoorW.PrintWords Go.Proofs.YthmeocigliephaaGreatDoorW.PrintLast Go.Proofs.YthmeocigliephaaGreatDoorW.PrintMore
section
namespace Go.Proofs.YthmeocigliephaaGreatDoor.Big
open Go.Proofs.YthmeocigliephaaGreatDoor.PSu Go.Proofs.YthmeocigliephaaGreatDoor.Plain
def apartL : Nat → List Nat → Int → Option (List Nat × Int)
  | 0, _, _ => none
  | k + 1, pre, z => if z = 0 then some (pre, 0) else if bl z.natAbs ≤ 2200 ∧ pre.length < 100000 then (if infB? (rndZ z 2) = true then some ([], 5) else if Fin64 (rndZ z 2) then apartL k (pre ++ [rndZ z 2]) (z - flz (rndZ z 2)) else none) else none
def KeepT (W W' : World) : Prop := ∀ (k : Nat) (cs : Array Value) (t : TypeId), (t = 60 ∨ t = 83) → W.heap[k]? = some (Obj.cells cs t (0, 0)) → W'.heap[k]? = some (Obj.cells cs t (0, 0))
def NumAt (w : World) (base g : Nat) (z : Int) : Prop := ∃ v, w.heap[g]? = some (Obj.cells #[.bool (canN z (-1074)).1, v, .int .i64 (canN z (-1074)).2.2] 60 (0, 0)) ∧ Kd.R (Kd.int .u32) 83 w base (fun _ => True) v (canN z (-1074)).2.1
theorem NumAt.keep {w w' : World} {base g : Nat} {z : Int} (h : NumAt w base g z) (k : KeepT w w') : NumAt w' base g z := by
  obtain ⟨v, h1, h2⟩ := h
  refine ⟨v, k _ _ _ (.inl rfl) h1, ?_⟩
  refine Kd.R_mono (Kd.R_move (Kd.R_bound h2) (fun j hj => ?_)) (fun _ _ => trivial)
  obtain ⟨_, _, _, q, hq, cells, hc⟩ := hj
  have : q = 83 := by simpa [Kd.int, Kd.scalar] using hq
  subst this
  rw [hc, k _ _ _ (.inr rfl) hc]
theorem NumAt.below {w w' : World} {base g : Nat} {z : Int} (h : NumAt w base g z) (k : Below w.heap.size w w') : NumAt w' base g z :=
  h.keep fun j cs t _ hj => blk_below hj k
theorem num_sign {z : Int} (h : bl z.natAbs ≤ 2200) : ∃ s : Int, dyad_Sign.f 1 (canN z (-1074)).1 (canN z (-1074)).2.1 (canN z (-1074)).2.2 = some s ∧ (s = 0 ↔ z = 0) := by
  refine ⟨_, sign_law (isN_can (by omega) (by omega) (by omega)), ?_⟩
  by_cases hz : z = 0
  · rw [if_pos (can_length.2 hz)]; exact ⟨fun _ => hz, fun _ => rfl⟩
  · rw [if_neg (fun h => hz (can_length.1 h))]
    refine ⟨fun h => ?_, fun h => absurd h hz⟩
    split at h <;> omega
theorem parts_tab : rtab .any (opsOf Tryz.f102 3) = sums_total.T5 := by kernel_rfl
section
variable (w : World) (g l : Nat) (PI : List Nat → World → Prop) (PX : World → Prop)
  (hS : ∀ pre W W1, PI pre W → Below W.heap.size W W1 → PI pre W1)
  (hG : ∀ pre W i v, PI pre W → PI pre (W.setCell ⟨g, i, none⟩ v))
  (hB : ∀ pre W, PI pre W → Below w.heap.size w W)
  (hY : ∀ pre W f, PI pre W → pre.length < 100000 → YieldAt Fence.wide 3 Tryz.prog l #[.float .f64 f] W fun e W' =>
    (infB? f = false ∧ e = .returned (.bool true) ∧ PI (pre ++ [f]) W' ∧ KeepT W W') ∨ (infB? f = true ∧ e = .returned (.bool false) ∧ PX W'))
include hS hG hB hY
theorem parts_run (k : Nat) (z : Int) (L : List Nat) (q : Int) (W : World) (hg : w.heap.size ≤ g) (h0 : PI [] W) (hz : NumAt W w.heap.size g z) (hL : Laid w) (ha : apartL k [] z = some (L, q)) :
    Calls Tryz.prog 102 #[.func (.yield l) #[] #[], .pointer (some ⟨g, 0, none⟩)] W fun e W' => (∃ v, e = .returned v) ∧ ((q = 0 ∧ PI L W') ∨ (q = 5 ∧ PX W')) := by
  have hu60 := Tryz.underlying60
  have HA := asd ha
  have HZ := asd hz
  have HI := asd h0
  have HL := asd hL
  have GE := asd hg
  have S_ := asd hS
  have G_ := asd hG
  have B_ := asd hB
  have Y_ := asd hY
  clear hS hG hB hY ha hz h0 hL hg
  go_enter Tryz.func102, Tryz.ntmps102
  go_wp2
  go_loopg [] k (fun kq w' => ∃ (pre : List Nat) (z : Int), Aside0 (apartL kq pre z = some (L, q)) ∧ Aside0 (kq ≤ k) ∧ Aside0 (PI pre w') ∧ Aside0 (NumAt w' w.heap.size g z))
  case atStart => exact ⟨[], z, HA, ⟨Nat.le_refl _⟩, HI, HZ⟩
  case round =>
    clear HA HZ HI
    obtain ⟨pre, z, HA, HK, HI, HZ⟩ := hrel
    have HB := asd (B_.out _ _ HI.out)
    cases gk with
    | zero => exact absurd HA.out (by simp [apartL])
    | succ k1 =>
      have H := HA.out
      clear HA
      rw [apartL] at H
      obtain ⟨v, hb, hr⟩ := HZ.out
      obtain ⟨A, c, rfl⟩ := Kd.R_slice hr
      by_cases hz : z = 0
      · rw [if_pos hz] at H
        obtain ⟨rfl, rfl⟩ := Prod.mk.inj (Option.some.inj H)
        obtain ⟨s, hs, hs0⟩ := num_sign (z := z) (by rw [hz]; decide)
        have hsb : (s != 0) = false := bne_eq_false_iff_eq.mpr (hs0.2 hz)
        obtain ⟨⟨n, m, e⟩, hc⟩ : ∃ p, canN z (-1074) = p := ⟨_, rfl⟩
        rw [hc] at hs hb hr
        simp only at hb
        have SG := asd hs
        have HR := asd hr
        have BK := asd hb
        have z0 := (blk_cell BK.out 0).trans rfl
        have z1 := (blk_cell BK.out 1).trans rfl
        have z2 := (blk_cell BK.out 2).trans rfl
        clear hs hs0 hr hb hc H hz HZ
        go_wp2_with (first
          | (go_at_call 51; refine (dyad_Sign.calls 1 n A c m e s _ (Kd.R_reads' HR.out).2.2 (Kd.R_reads' HR.out).2.1 SG.out).mono ?_; rintro e1 w1 ⟨rfl, d⟩; have HI1 := asd (S_.out _ _ _ HI.out d); clear d))
        go_end0
        exact ⟨⟨_, rfl⟩, HI1.out⟩
      · rw [if_neg hz] at H
        by_cases hng : ¬ (bl z.natAbs ≤ 2200 ∧ pre.length < 100000)
        · rw [if_neg hng] at H; cases H
        have hgd := Classical.not_not.1 hng
        clear hng
        rw [if_pos hgd] at H
        obtain ⟨s, hs, hs0⟩ := num_sign (z := z) hgd.1
        have hsb : (s != 0) = true := bne_iff_ne.mpr (fun h => hz (hs0.1 h))
        have hrd := round_can (z := z) (mode := 2) (by omega) (by omega)
        obtain ⟨f, hf⟩ : ∃ f, rndZ z 2 = f := ⟨_, rfl⟩
        rw [hf] at H hrd
        have HP := asd hgd.2
        have HH := asd H
        have HZ2 := HZ
        obtain ⟨⟨n, m, e⟩, hc⟩ : ∃ p, canN z (-1074) = p := ⟨_, rfl⟩
        have HC := asd hc
        have HBZ := asd hgd.1
        rw [hc] at hs hb hr hrd
        simp only at hb hrd
        have SG := asd hs
        have RD := asd hrd
        have HR := asd hr
        have BK := asd hb
        have z0 := (blk_cell BK.out 0).trans rfl
        have z1 := (blk_cell BK.out 1).trans rfl
        have z2 := (blk_cell BK.out 2).trans rfl
        clear hs hs0 hr hb hc H hz hf hrd hgd HZ
        go_upto_region 2 with (first
          | (go_at_call 51; refine (dyad_Sign.calls 1 n A c m e s _ (Kd.R_reads' HR.out).2.2 (Kd.R_reads' HR.out).2.1 SG.out).mono ?_; rintro e1 w1 ⟨rfl, d⟩; have n1 := asd (S_.out _ _ _ HI.out d); have n2 := asd (HZ2.out.below d); have n3 := asd (Kd.R_below HR.out d); have n4 := asd (blk_below BK.out d); clear HI HZ2 HR BK HB z0 z1 z2; have HI := n1; have HZ2 := n2; have HR := n3; have BK := n4; clear n1 n2 n3 n4 d; have z0 := (blk_cell BK.out 0).trans rfl; have z1 := (blk_cell BK.out 1).trans rfl; have z2 := (blk_cell BK.out 2).trans rfl)
          | (go_at_call 47; refine (dyad_Round.calls n _ _ m e 2 f 0 _ (Kd.R_reads' HR.out).2.2 (Kd.R_reads' HR.out).2.1 RD.out).mono ?_; rintro e2 w2 ⟨rfl, d⟩; have n1 := asd (S_.out _ _ _ HI.out d); have n2 := asd (HZ2.out.below d); have n3 := asd (Kd.R_below HR.out d); have n4 := asd (blk_below BK.out d); clear HI HZ2 HR BK z0 z1 z2; have HI := n1; have HZ2 := n2; have HR := n3; have BK := n4; clear n1 n2 n3 n4 d))
        go_cut [16] (fun v16 wc => ∃ b : Bool, v16 = .bool b ∧ Aside0 (infB? f = b) ∧ Aside0 ((b = false ∧ PI (pre ++ [f]) wc ∧ NumAt wc w.heap.size g z) ∨ (b = true ∧ PX wc)))
        case first =>
          obtain ⟨fn, tmps, assign, body, hy, hR⟩ := Y_.out pre _ f HI.out HP.out
          refine (wpIn_wide (n := 4)).1 ?_
          gi_wp2
          refine hR.mono ?_
          rintro e3 w3 (⟨i1, rfl, i2, i3⟩ | ⟨i1, rfl, i2⟩)
          · gi_wp2
            go_meet
            case rel => exact ⟨false, rfl, ⟨i1⟩, ⟨.inl ⟨rfl, i2, HZ2.out.keep i3⟩⟩⟩
          · gi_wp2
            go_meet
            case rel => exact ⟨true, rfl, ⟨i1⟩, ⟨.inr ⟨rfl, i2⟩⟩⟩
        case rest =>
          obtain ⟨b, rfl, HF, HQ⟩ := hcut
          clear HI HZ2 HR BK RD SG hsb
          cases b with
          | true =>
            have H := HH.out
            rw [if_pos HF.out] at H
            obtain ⟨rfl, rfl⟩ := Prod.mk.inj (Option.some.inj H)
            have HX : Aside0 (PX wc) := ⟨by rcases HQ.out with h | h; exact absurd h.1 (by decide); exact h.2⟩
            clear H HH HQ
            go_wp2
            refine bodyPost_ret (results_none rfl _ _ _) rfl ?_
            exact ⟨⟨_, rfl⟩, HX.out⟩
          | false =>
            have H := HH.out
            rw [if_neg (by rw [HF.out]; decide)] at H
            by_cases hng : ¬ Fin64 f
            · rw [if_neg hng] at H; cases H
            have hfin := Classical.not_not.1 hng
            rw [if_pos hfin] at H
            have HH2 := asd H
            have HQ2 := HQ.out.resolve_right (fun h => absurd h.1 (by decide))
            have HI := asd HQ2.2.1
            have HZ := asd HQ2.2.2
            have HB := asd (B_.out _ _ HI.out)
            have hnf := num_law hfin
            have hfb : bl (flz f).natAbs ≤ 2098 := bl_le.2 (flz_lt hfin)
            have hsu := dsub_law 0 (x := z) (y := flz f) (by have := HBZ.out; omega) (by omega)
            have hzz := HC.out
            rw [hzz] at hsu
            obtain ⟨⟨n2, m2, e2⟩, hc2⟩ : ∃ p, canN (flz f) (-1074) = p := ⟨_, rfl⟩
            rw [hc2] at hnf hsu
            obtain ⟨⟨n3, m3, e3⟩, hc3⟩ : ∃ p, canN (z - flz f) (-1074) = p := ⟨_, rfl⟩
            rw [hc3] at hsu
            simp only at hsu
            have NF := asd hnf
            have SU := asd hsu
            have HC3 := asd hc3
            obtain ⟨v, hb, hr⟩ := HZ.out
            rw [hzz] at hb hr
            simp only at hb hr
            obtain ⟨A, c, rfl⟩ := Kd.R_slice hr
            have HR := asd hr
            have BK := asd hb
            clear H HH HQ HQ2 hng hfin hnf hfb hsu hzz hc2 hc3 hb hr HZ HC HBZ HP HF
            try go_wp2
            have n0_ := asd (Kd.R_drew HR.out)
            have n1_ := asd (blk_drew BK.out)
            have n2_ := asd (below_drew1 HB.out)
            have n3_ : Aside0 (PI (pre ++ [f]) wc.drew) := ⟨S_.out _ _ _ HI.out (below_drew1 (Below.refl _ _))⟩
            clear HR BK HB HI
            have HR := n0_
            have BK := n1_
            have HB := n2_
            have HI := n3_
            clear n0_ n1_ n2_ n3_
            refine start_ (n := 8) (S := fun w' => w'.cell? ⟨g, 0, none⟩ = some (.bool n) ∧ w'.cell? ⟨g, 1, none⟩ = some (.slice A m.length c) ∧ w'.cell? ⟨g, 2, none⟩ = some (.int .i64 e)) (ds := [7]) #[false, false, false, false, false, false, false, false] (by kernel_rfl) rfl rfl ⟨(blk_cell BK.out 0).trans rfl, (blk_cell BK.out 1).trans rfl, (blk_cell BK.out 2).trans rfl⟩ (fun hHeld => ?_); refine with_tabW parts_tab sums_total.bits5 (fun HT_ HW_ => ?_)
            generalize wc.drew = w9 at HR BK HB HI hHeld ⊢
            refine pure_ (i := 1) (N := some 19) (v := ?_) (a' := ?_) #[false, true, false, false, false, false, false, false] rfl rfl (any_of HT_.out (by kernel_rfl)) (fun _ _ _ h => h) (Or.inl ⟨by rfl, ?_⟩) ?_ ?_
            rotate_left
            · intro w'
              go_simp
              with_reducible rfl
            rotate_left
            · simp only [Act.put, List.setIfInBounds_toArray, List.set_cons_zero, List.set_cons_succ, i64_w, i32_w]
              rfl
            refine take_ (i := 0) (N := some 18) (v := ?_) (a' := ?_) #[true, true, false, false, false, false, false, false] rfl rfl (take_ofW HT_.out HW_.out (by kernel_rfl)) (fun _ _ _ h => h) (Or.inl ⟨by rfl, ?_⟩) hHeld ?_ ?_
            rotate_left
            · rintro w' ⟨s0, s1, s2⟩
              go_simp
              with_reducible rfl
            rotate_left
            · simp only [Act.put, List.setIfInBounds_toArray, List.set_cons_zero, List.set_cons_succ, i64_w, i32_w]
              rfl
            refine one_ (i := 2) (N := some 20) #[true, true, true, false, false, false, false, false] rfl rfl (one_of HT_.out (by kernel_rfl)) (by decide) (fun K hK => ?_)
            refine goes_ Tryz.func46 (by kernel_rfl) rfl #[.float .f64 f] (by rfl) rfl rfl eqA ?_
            with_reducible refine (sums_num.calls f n2 m2 e2 _ NF.out (HL.out.step HB.out)).mono ?_
            rintro e4 w4 ⟨v2, rfl, ho, hb⟩
            refine ⟨_, rfl, ?_⟩
            have n0_ := asd (Kd.R_below HR.out hb)
            have n1_ := asd (blk_below BK.out hb)
            have n2_ := asd (below_step HB.out hb)
            have n3_ := asd (S_.out _ _ _ HI.out hb)
            have HR2 := asd ho
            clear HR BK HB HI hb ho
            have HR := n0_
            have BK := n1_
            have HB := n2_
            have HI := n3_
            clear n0_ n1_ n2_ n3_
            obtain ⟨A2, c2, rfl⟩ := Kd.R_slice HR2.out
            refine hK.out _ _ ⟨(blk_cell BK.out 0).trans rfl, (blk_cell BK.out 1).trans rfl, (blk_cell BK.out 2).trans rfl⟩ (fun hHeld => ?_)
            clear hK K
            refine norm_ (a' := ?_) ?_ ?_
            rotate_left
            · show Act.put _ (some 20) _ = _
              simp only [Act.put, List.setIfInBounds_toArray, List.set_cons_zero, List.set_cons_succ, i64_w, i32_w]
              rfl
            refine one_ (i := 3) (N := some 21) #[true, true, true, true, false, false, false, false] rfl rfl (one_of HT_.out (by kernel_rfl)) (by decide) (fun K hK => ?_)
            refine goes_ Tryz.func44 (by kernel_rfl) rfl #[.agg #[.bool n, .slice A m.length c, .int .i64 e], .agg #[.bool n2, .slice A2 m2.length c2, .int .i64 e2]] (by rfl) rfl rfl eqA ?_
            with_reducible refine (dyad_Sub.calls 3 n (fun k_ => some k_ = (.slice A m.length c : Value).ownBlock) _ _ m e n2 (fun k_ => some k_ = (.slice A2 m2.length c2 : Value).ownBlock) _ _ m2 e2 n3 m3 e3 0 _ (Kd.R_V (Kd.R_tight rfl HR.out)) (Kd.R_V (Kd.R_tight rfl HR2.out)) SU.out (HL.out.step HB.out)).mono ?_
            rintro e5 w5 ⟨v3, rfl, ho, hb⟩
            refine ⟨_, rfl, ?_⟩
            have n1_ := asd (blk_below BK.out hb)
            have n2_ := asd (below_step HB.out hb)
            have n3_ := asd (S_.out _ _ _ HI.out hb)
            have n4_ := asd (Kd.R_lower (Kd.R_mono (ok' := fun k_ => True) ho (fun _ hk_ => trivial)) (below_size HB.out))
            clear HR HR2 BK HB HI hb ho
            have HR := n4_
            have BK := n1_
            have HB := n2_
            have HI := n3_
            clear n4_ n1_ n2_ n3_
            obtain ⟨A3, c3, rfl⟩ := Kd.R_slice HR.out
            refine hK.out _ _ ⟨(blk_cell BK.out 0).trans rfl, (blk_cell BK.out 1).trans rfl, (blk_cell BK.out 2).trans rfl⟩ (fun hHeld => ?_)
            clear hK K
            refine norm_ (a' := ?_) ?_ ?_
            rotate_left
            · show Act.put _ (some 21) _ = _
              simp only [Act.put, List.setIfInBounds_toArray, List.set_cons_zero, List.set_cons_succ, i64_w, i32_w]
              rfl
            refine pure_ (i := 4) (N := some 17) (v := ?_) (a' := ?_) #[true, true, true, true, true, false, false, false] rfl rfl (any_of HT_.out (by kernel_rfl)) (fun _ _ _ h => h) (Or.inl ⟨by rfl, ?_⟩) ?_ ?_
            rotate_left
            · intro w'
              go_simp
              with_reducible rfl
            rotate_left
            · simp only [Act.put, List.setIfInBounds_toArray, List.set_cons_zero, List.set_cons_succ, i64_w, i32_w]
              rfl
            refine pure_ (i := 5) (N := some 22) (v := ?_) (a' := ?_) #[true, true, true, true, true, true, false, false] rfl rfl (any_of HT_.out (by kernel_rfl)) (fun _ _ _ h => h) (Or.inl ⟨by rfl, ?_⟩) ?_ ?_
            rotate_left
            · intro w'
              go_simp
              with_reducible rfl
            rotate_left
            · simp only [Act.put, List.setIfInBounds_toArray, List.set_cons_zero, List.set_cons_succ, i64_w, i32_w]
              rfl
            refine pure_ (i := 6) (N := some 23) (v := ?_) (a' := ?_) #[true, true, true, true, true, true, true, false] rfl rfl (any_of HT_.out (by kernel_rfl)) (fun _ _ _ h => h) (Or.inl ⟨by rfl, ?_⟩) ?_ ?_
            rotate_left
            · intro w'
              go_simp
              with_reducible rfl
            rotate_left
            · simp only [Act.put, List.setIfInBounds_toArray, List.set_cons_zero, List.set_cons_succ, i64_w, i32_w]
              rfl
            refine last_ (i := 7) (N := none) #[true, true, true, true, true, true, true, true] rfl rfl (one_of HT_.out (by kernel_rfl)) (by decide) (fun K hK => ?_)
            have z0 : w5.cell? ⟨g, 0, none⟩ = some (.bool n) := (blk_cell BK.out 0).trans rfl
            have f0 := blk_frozen BK.out 0
            have z1 : w5.cell? ⟨g, 1, none⟩ = some (.slice A m.length c) := (blk_cell BK.out 1).trans rfl
            have f1 := blk_frozen BK.out 1
            have z2 : w5.cell? ⟨g, 2, none⟩ = some (.int .i64 e) := (blk_cell BK.out 2).trans rfl
            have f2 := blk_frozen BK.out 2
            refine skip_ (w1 := ?_) (by rfl) rfl ?_ ?_
            rotate_left
            · go_simp
              rfl
            refine hK.out _ _ ?_
            clear hK K
            refine done_ (done_of HT_.out (by kernel_rfl)) ?_
            try go_wp2
            go_roundg k1
            case measure => have := HK.out; omega
            case rel =>
              refine ⟨pre ++ [f], z - flz f, HH2, ⟨by have := HK.out; omega⟩, ⟨G_.out _ _ _ _ (G_.out _ _ _ _ (G_.out _ _ _ _ HI.out))⟩, ⟨.slice A3 m3.length c3, ?_, ?_⟩⟩
              · rw [HC3.out]
                refine blk_put (cs := #[.bool n3, .slice A3 m3.length c3, .int .i64 e]) ?_ 2 _ rfl
                refine blk_put (cs := #[.bool n3, .slice A m.length c, .int .i64 e]) ?_ 1 _ rfl
                refine blk_put (cs := #[.bool n, .slice A m.length c, .int .i64 e]) ?_ 0 _ rfl
                exact BK.out
              · rw [HC3.out]
                exact Kd.R_mono (Kd.R_far (p := ⟨g, 2, none⟩) (Kd.R_far (p := ⟨g, 1, none⟩) (Kd.R_far (p := ⟨g, 0, none⟩) (Kd.R_types HR.out BK.out (by decide)) (fun _ hk => hk.2) (.bool n3)) (fun _ hk => hk.2) (.slice A3 m3.length c3)) (fun _ hk => hk.2) (.int .i64 e3)) (fun _ hk => trivial)
end
end Go.Proofs.YthmeocigliephaaGreatDoor.Big
end
section
namespace Go.Proofs.YthmeocigliephaaGreatDoor.Big
open Go.Proofs.YthmeocigliephaaGreatDoor.PSu Go.Proofs.YthmeocigliephaaGreatDoor.Plain
def roundQ (J : List Nat → World → Prop) (JX : World → Prop) (B : Nat) (pre : List Nat) (f : Nat) (W : World) : Exit → Act → World → Prop
  | .normal, _, W' => infB? f = false ∧ J (pre ++ [f]) W' ∧ KeepT W W' ∧ KeepsFrom B W W'
  | .ret, _, W' => infB? f = true ∧ JX W' ∧ KeepsFrom B W W'
  | _, _, _ => False
theorem keepT_put {W : World} {l : Nat} {o o' : Obj} (h : W.heap[l]? = some o) (hc : o.isCells = false) : KeepT W (W.putObj l o') := by
  intro k cs t ht hk
  by_cases hkl : k = l
  · subst hkl
    rw [h] at hk
    cases hk
    cases hc
  · rw [World.putObj_heap_other hkl]
    exact hk
section
variable {ps : Array Tmp} {assign body : Code} {Q : Exit → Act → World → Prop} {a : Act} {W0 : World} (w : World) (g : Nat) (J : List Nat → World → Prop) (JX : World → Prop)
theorem range_parts (hps : ps.size = 1) (hgw : w.heap.size ≤ g) (hgW : g < W0.heap.size) (hev : a.eval (.tmp 15) = .func (.func 102) #[] #[.pointer (some ⟨g, 0, none⟩)]) (hL : Laid w)
    (hJS : ∀ pre W W1, J pre W → Below W.heap.size W W1 → J pre W1) (hJG : ∀ pre W i v, J pre W → J pre (W.setCell ⟨g, i, none⟩ v)) (hJB : ∀ pre W, J pre W → Below w.heap.size w W)
    (hJP : ∀ pre W j o o', J pre W → W0.heap.size ≤ j → W.heap[j]? = some o → o.isCells = false → o'.isCells = false → J pre (W.putObj j o'))
    (hXP : ∀ W j o o', JX W → W0.heap.size ≤ j → W.heap[j]? = some o → o.isCells = false → o'.isCells = false → JX (W.putObj j o'))
    (hround : ∀ l pre f W, J pre W → pre.length < 100000 → assign.wpIn (Fence.wide.inRound l) 3 Tryz.prog (Exit.then (fun a₁ w₁ => w₁ = W ∧ ∀ W1, J pre W1 → body.wpIn (Fence.wide.inRound l) 3 Tryz.prog (roundQ J JX W0.heap.size pre f W1) a₁ W1) (fun _ _ _ => False))
      { tmps := (ps.zip #[Value.float .f64 f]).foldl (fun t (p, v) => t.setIfInBounds p v) a.tmps, defers := [] } W)
    (h0 : J [] W0) (z : Int) (hz : NumAt W0 w.heap.size g z) (k : Nat) (L : List Nat) (q : Int) (ha : apartL k [] z = some (L, q))
    (hdone : q = 0 → ∀ D W, W0.heap.size ≤ D → J L W → W.heap[D]? = some (.deferred (some [])) → Q .normal { a with defers := { target := .collected D, args := #[] } :: a.defers } W)
    (hstop : q = 5 → ∀ D W, W0.heap.size ≤ D → JX W → W.heap[D]? = some (.deferred (some [])) → Code.ret.wpIn Fence.wide 5 Tryz.prog Q { a with defers := { target := .collected D, args := #[] } :: a.defers } W) :
    (Code.rangeFunc (.tmp 15) ps assign body).wpIn Fence.wide 5 Tryz.prog Q a W0 := by
  refine wpIn_rangeFunc ?_
  intro fn hfn
  obtain ⟨rec, hrec⟩ : ∃ rec : LoopState → Option Code → Loop, rec = fun st pe => { state := st, pending := pe, fn, tmps := a.tmps, params := ps, assign, body, defers := W0.heap.size } := ⟨_, rfl⟩
  obtain ⟨W1, hW1⟩ : ∃ W1, (W0.alloc (.deferred (some []))).alloc (.loop (rec .ready none)) = W1 := ⟨_, rfl⟩
  have hL1 : W1.heap[W0.heap.size + 1]? = some (.loop (rec .ready none)) := by
    rw [← hW1]; have := World.alloc_heap_new (W0.alloc (.deferred (some []))) (.loop (rec .ready none)); rwa [World.size_alloc] at this
  have hK1 : W1.heap[W0.heap.size]? = some (.deferred (some [])) := by
    rw [← hW1]; exact (Below.heap_alloc _ _ _ (by simp)).trans (World.alloc_heap_new W0 _)
  have hb1 : Below W0.heap.size W0 W1 := by
    rw [← hW1]; exact ((Below.refl _ W0).alloc (Nat.le_refl _) _).alloc (by simp) _
  refine ⟨W0.heap.size + 1, [{ target := .collected W0.heap.size, args := #[] }], W1, { target := .fn (.func 102) #[.pointer (some ⟨g, 0, none⟩)], args := #[.func (.yield (W0.heap.size + 1)) #[] #[]] }, W1, 102,
    #[.func (.yield (W0.heap.size + 1)) #[] #[]] ++ #[.pointer (some ⟨g, 0, none⟩)], W1, ?_, ?_, fun _ _ => trivial, ?_, fun _ => by omega, ?_⟩
  · rw [← hW1, hrec]; exact run_enterLoop_outer _ _ _ _ _
  · simp only [resolve, rangeCall, hev]
    simp [go_sem]
  · have eg : ∀ args w, (callFunc 102 args).run Tryz.prog w = .ok (.enter 102 args) w := enters_of Tryz.func102 (by kernel_rfl) rfl
    simp [invoke, go_sem, eg]
  · refine callsIn_wide.2 ((parts_run w g (W0.heap.size + 1)
      (fun pre W => J pre W ∧ W.heap[W0.heap.size + 1]? = some (.loop (rec .ready none)) ∧ W.heap[W0.heap.size]? = some (.deferred (some [])))
      (fun W => JX W ∧ W.heap[W0.heap.size + 1]? = some (.loop (rec .done (some .ret))) ∧ W.heap[W0.heap.size]? = some (.deferred (some [])))
      (fun pre W W1 h k => ⟨hJS pre W W1 h.1 k, blk_below h.2.1 k, blk_below h.2.2 k⟩)
      (fun pre W i v h => ⟨hJG pre W i v h.1, (Below.heap_setCell W _ v _ (by show _ ≠ g; omega)).trans h.2.1, (Below.heap_setCell W _ v _ (by show _ ≠ g; omega)).trans h.2.2⟩)
      (fun pre W h => hJB pre W h.1) ?_ k z L q W1 hgw ⟨hJS _ _ _ h0 hb1, hL1, hK1⟩ (hz.below hb1) hL ha).mono ?_)
    · rintro pre W f ⟨hi, hl, hk⟩ hlen
      have hy := run_yield (P := Tryz.prog) (args := #[Value.float .f64 f]) hl (by rw [hrec]; exact hps.symm)
      rw [hrec] at hy
      refine ⟨fn, _, assign, body, hy, roundIn_of_wpIn hfn (wpIn_mono (hround _ pre f W hi hlen) ?_)⟩
      clear hy
      rintro e a1 w1 he
      cases e with
      | normal =>
        obtain ⟨rfl, hbody⟩ := he
        refine ⟨_, run_beginRound hl (by rw [hrec]), ?_⟩
        have hlt : W0.heap.size + 1 < w1.heap.size := (Array.getElem?_eq_some_iff.1 hl).1
        have hl2 : (w1.putObj (W0.heap.size + 1) (.loop { rec .ready none with state := .busy })).heap[W0.heap.size + 1]? = some (.loop { rec .ready none with state := .busy }) := World.putObj_heap_same hlt
        have hk2 : (w1.putObj (W0.heap.size + 1) (.loop { rec .ready none with state := .busy })).heap[W0.heap.size]? = some (.deferred (some [])) := (World.putObj_heap_other (by omega)).trans hk
        have hi2 := hJP pre w1 _ _ (.loop { rec .ready none with state := .busy }) hi (by omega) hl rfl rfl
        have kt1 : KeepT w1 (w1.putObj (W0.heap.size + 1) (.loop { rec .ready none with state := .busy })) := keepT_put hl rfl
        refine wpIn_mono (hbody _ hi2) ?_
        have fin : ∀ (jump : Option Code) (W3 : World), KeepsFrom W0.heap.size (w1.putObj (W0.heap.size + 1) (.loop { rec .ready none with state := .busy })) W3 →
            (Instr.endRound (W0.heap.size + 1) jump).run Tryz.prog W3 = .ok (.bool jump.isNone) (W3.putObj (W0.heap.size + 1) (.loop (rec (if jump.isNone then .ready else .done) jump))) ∧
            W3.heap[W0.heap.size + 1]? = some (.loop { rec .ready none with state := .busy }) ∧
            (W3.putObj (W0.heap.size + 1) (.loop (rec (if jump.isNone then .ready else .done) jump))).heap[W0.heap.size + 1]? = some (.loop (rec (if jump.isNone then .ready else .done) jump)) ∧
            (W3.putObj (W0.heap.size + 1) (.loop (rec (if jump.isNone then .ready else .done) jump))).heap[W0.heap.size]? = some (.deferred (some [])) := fun jump W3 hk3 => by
          have hl3 := hk3.same _ _ (by omega) hl2 rfl
          have := run_endRound (P := Tryz.prog) jump hl3
          rw [hrec] at this ⊢
          exact ⟨this, by rw [hrec] at hl3; exact hl3, World.putObj_heap_same (Array.getElem?_eq_some_iff.1 hl3).1, (World.putObj_heap_other (by omega)).trans (hk3.same _ _ (Nat.le_refl _) hk2 rfl)⟩
        rintro e3 a3 W3 hp
        cases e3 with
        | normal =>
          obtain ⟨hf, hi3, hk3, hf3⟩ := hp
          obtain ⟨hr, hl3, hl4, hk4⟩ := fin none W3 hf3
          exact ⟨_, _, hr, .inl ⟨hf, rfl, ⟨hJP _ _ _ _ _ hi3 (by omega) hl3 rfl rfl, hl4, hk4⟩, fun j cs t ht hj => keepT_put hl3 rfl j cs t ht (hk3 j cs t ht (kt1 j cs t ht hj))⟩⟩
        | ret =>
          obtain ⟨hf, hx, hf3⟩ := hp
          obtain ⟨hr, hl3, hl4, hk4⟩ := fin (some .ret) W3 hf3
          exact ⟨_, _, hr, .inr ⟨hf, rfl, hXP _ _ _ _ hx (by omega) hl3 rfl rfl, hl4, hk4⟩⟩
        | exit id => exact hp.elim
        | goto t => exact hp.elim
        | panic ch => exact hp.elim
        | outgrown => exact hp.elim
      | ret => exact he.elim
      | exit id => exact he.elim
      | goto t => exact he.elim
      | panic ch => exact he.elim
      | outgrown => exact he.elim
    · rintro e W2 ⟨⟨v, rfl⟩, (⟨hq, hi, hl, hk⟩ | ⟨hq, hi, hl, hk⟩)⟩
      · exact ⟨none, _, by have := run_endLoop (P := Tryz.prog) hl (by rw [hrec]; simp); rw [hrec] at this; exact this, hdone hq _ _ (Nat.le_refl _) (hJP _ _ _ _ _ hi (by omega) hl rfl rfl) ((World.putObj_heap_other (by omega)).trans hk)⟩
      · exact ⟨some .ret, _, by have := run_endLoop (P := Tryz.prog) hl (by rw [hrec]; simp); rw [hrec] at this; exact this, hstop hq _ _ (Nat.le_refl _) (hXP _ _ _ _ hi (by omega) hl rfl rfl) ((World.putObj_heap_other (by omega)).trans hk)⟩
end
end Go.Proofs.YthmeocigliephaaGreatDoor.Big
end
section
namespace Go.Proofs.YthmeocigliephaaGreatDoor.Big
open Go.Proofs.YthmeocigliephaaGreatDoor.PSu Go.Proofs.YthmeocigliephaaGreatDoor.Plain
theorem parts_make (n : Bool) (v : Value) (e : Int) (w : World) :
    Calls Tryz.prog 71 #[.agg #[.bool n, v, .int .i64 e]] w fun e' w' => e' = .returned (.func (.func 102) #[] #[.pointer (some ⟨w.heap.size, 0, none⟩)]) ∧ w' = w.alloc (Obj.cells #[.bool n, v, .int .i64 e] 60 (0, 0)) := by
  have hu60 := Tryz.underlying60
  go_enter Tryz.func71, Tryz.ntmps71
  go_wp2
  go_ret
  exact ⟨rfl, rfl⟩
structure ApJ (w : World) (b2 b3 b5 g : Nat) (pre : List Nat) (W : World) : Prop where
  c2 : W.heap[b2]? = some (Obj.cells #[.slice none 0 0] 22 (0, 0))
  c3 : W.heap[b3]? = some (Obj.cells #[.int .i64 0] 32 (0, 0))
  c5 : ∃ v, W.heap[b5]? = some (Obj.cells #[v] 22 (0, 0)) ∧ Kd.R Kd.float 25 W w.heap.size (fun k => k ≠ g) v pre
  hb : Below w.heap.size w W
  gz : g < W.heap.size
structure ApX (w : World) (b2 b3 : Nat) (W : World) : Prop where
  c2 : W.heap[b2]? = some (Obj.cells #[.slice none 0 0] 22 (0, 0))
  c3 : W.heap[b3]? = some (Obj.cells #[.int .i64 5] 32 (0, 0))
  hb : Below w.heap.size w W
section
variable {w W : World} {b2 b3 b5 g : Nat} {pre : List Nat}
theorem ApJ.below {W1 : World} (h : ApJ w b2 b3 b5 g pre W) (k : Below W.heap.size W W1) : ApJ w b2 b3 b5 g pre W1 := by
  obtain ⟨v, h1, h2⟩ := h.c5
  exact ⟨blk_below h.c2 k, blk_below h.c3 k, ⟨v, blk_below h1 k, Kd.R_below h2 k⟩, below_step h.hb k, Nat.lt_of_lt_of_le h.gz k.size⟩
theorem ApJ.far (h : ApJ w b2 b3 b5 g pre W) (n2 : b2 ≠ g) (n3 : b3 ≠ g) (n5 : b5 ≠ g) (hg : w.heap.size ≤ g) (i : Nat) (u : Value) : ApJ w b2 b3 b5 g pre (W.setCell ⟨g, i, none⟩ u) := by
  obtain ⟨v, h1, h2⟩ := h.c5
  exact ⟨(Below.heap_setCell W _ u _ n2).trans h.c2, (Below.heap_setCell W _ u _ n3).trans h.c3, ⟨v, (Below.heap_setCell W _ u _ n5).trans h1, Kd.R_far h2 (fun _ hk => hk) u⟩, below_set h.hb hg, by have := h.gz; simpa [World.setCell] using this⟩
theorem R_put {e base : Nat} {ok : Nat → Prop} {v : Value} {l : List Nat} {j : Nat} {o o' : Obj} (h : Kd.R Kd.float e W base ok v l) (hj : W.heap[j]? = some o) (ho : o.isCells = false) : Kd.R Kd.float e (W.putObj j o') base ok v l := by
  refine Kd.R_mono (Kd.R_move (Kd.R_bound h) (fun k hk => ?_)) (fun _ hk => hk.1)
  obtain ⟨_, _, _, q, _, cells, hc⟩ := hk
  refine World.putObj_heap_other (fun e => ?_)
  subst e
  rw [hj] at hc
  cases hc
  cases ho
theorem row_cells {e base : Nat} {ok : Nat → Prop} {v : Value} {l : List Nat} (h : Kd.R Kd.float e W base ok v l) (j : Nat) (hj : v.ownBlock = some j) : base ≤ j ∧ ∃ cs, W.heap[j]? = some (Obj.cells cs e (0, 0)) := by
  obtain ⟨_, h1, _, q, hq, cs, hc⟩ := (Kd.R_bound h).1 j hj
  have : q = e := by simpa [Kd.float, Kd.scalar] using hq
  subst this
  exact ⟨h1, cs, hc⟩
theorem row_ne {e base : Nat} {ok : Nat → Prop} {v : Value} {l : List Nat} (h : Kd.R Kd.float e W base ok v l) {j : Nat} {cs : Array Value} {t : TypeId} (hj : W.heap[j]? = some (Obj.cells cs t (0, 0))) (ht : t ≠ e) : some j ≠ v.ownBlock := by
  intro he
  obtain ⟨_, cs', hc⟩ := row_cells h j he.symm
  rw [hj] at hc
  cases hc
  exact ht rfl
theorem ApJ.append {w1 : World} {v v' : Value} {f : Nat} {z : Value} {t : TypeId} (c2 : W.heap[b2]? = some (Obj.cells #[.slice none 0 0] 22 (0, 0))) (c3 : W.heap[b3]? = some (Obj.cells #[.int .i64 0] 32 (0, 0)))
    (c5 : W.heap[b5]? = some (Obj.cells #[v] 22 (0, 0))) (r : Kd.R Kd.float 25 W w.heap.size (fun k => k ≠ g) v pre) (hb : Below w.heap.size w W) (gz : g < W.heap.size) (d25 : b2 ≠ b5) (d35 : b3 ≠ b5) (h5 : w.heap.size ≤ b5) (h5g : b5 ≠ g)
    (hown : w1.ownsRow w.heap.size 25 1 v' (pre.length + 1) (encs (Value.float .f64) pre ++ [.float .f64 f])) (hg : (W.alloc (Obj.cells #[z] t (0, 0))).grownBy w1 v.ownBlock) (hat : v'.ownBlock = v.ownBlock ∨ v'.ownBlock = some (W.alloc (Obj.cells #[z] t (0, 0))).heap.size) :
    w1.heap[b5]? = some (Obj.cells #[v] 22 (0, 0)) ∧ ApJ w b2 b3 b5 g (pre ++ [f]) (w1.setCell ⟨b5, 0, none⟩ v') ∧ KeepT W (w1.setCell ⟨b5, 0, none⟩ v') ∧ ∀ B, KeepsFrom B W (w1.setCell ⟨b5, 0, none⟩ v') := by
  have n2 := blk_grown (blk_alloc c2 _) hg (row_ne r c2 (by decide))
  have n3 := blk_grown (blk_alloc c3 _) hg (row_ne r c3 (by decide))
  have n5 := blk_grown (blk_alloc c5 _) hg (row_ne r c5 (by decide))
  have hsz : W.heap.size ≤ w1.heap.size := Nat.le_trans (by simp) hg.size
  have R1 : Kd.R Kd.float 25 w1 w.heap.size (fun k => k ≠ g) v' (pre ++ [f]) := by
    refine Kd.R_of_own (by simpa [encs] using hown) (fun k hk => ?_)
    rcases hat with e1 | e1
    · exact r.1 k (by rw [← e1]; exact hk)
    · rw [e1] at hk
      injection hk with hk
      simp at hk
      omega
  have R2 := Kd.R_mono (Kd.R_far (p := ⟨b5, 0, none⟩) (Kd.R_types R1 n5 (by decide)) (fun _ hk => hk.2) v') (fun _ hk => hk.1)
  have hb1 : Below w.heap.size w w1 := (below_alloc hb _).grown hg (by have := hb.size; simp; omega) (fun k e => (row_cells r k e).1)
  have kt : KeepT W w1 := fun j cs t ht hj => blk_grown (blk_alloc hj _) hg (row_ne r hj (by rcases ht with rfl | rfl <;> decide))
  refine ⟨n5, ⟨(Below.heap_setCell w1 _ _ _ d25).trans n2, (Below.heap_setCell w1 _ _ _ d35).trans n3, ⟨v', blk_put (cs := #[v]) n5 0 _ rfl, R2⟩, below_set hb1 h5, Nat.lt_of_lt_of_le gz (Nat.le_trans hsz (by simp [World.setCell]))⟩, ?_, fun B => ?_⟩
  · intro j cs t ht hj
    refine (Below.heap_setCell w1 _ _ _ ?_).trans (kt j cs t ht hj)
    show j ≠ b5
    intro e
    subst e
    rw [hj] at c5
    cases c5
    rcases ht with h | h <;> revert h <;> decide
  · refine (((KeepsOthers.alloc W _).trans (KeepsOthers.of_grownBy hg (fun j o e hj => ?_))).trans (KeepsOthers.setCell _ _ _)).from B
    obtain ⟨_, cs, hc⟩ := row_cells r j e
    rw [blk_alloc hc _] at hj
    cases hj
    rfl
theorem blk_putObj {k j : Nat} {cs : Array Value} {t : TypeId} {o o' : Obj} (h : W.heap[k]? = some (Obj.cells cs t (0, 0))) (hj : W.heap[j]? = some o) (ho : o.isCells = false) : (W.putObj j o').heap[k]? = some (Obj.cells cs t (0, 0)) := by
  refine (World.putObj_heap_other (fun e => ?_)).trans h
  subst e
  rw [hj] at h
  cases h
  cases ho
theorem below_putObj {j : Nat} (h : Below w.heap.size w W) (o' : Obj) (hj : w.heap.size ≤ j) : Below w.heap.size w (W.putObj j o') := h.grown (grownBy_putObj' W j o') h.size (fun k e => by cases e; omega)
theorem ApJ.put {j : Nat} {o o' : Obj} (h : ApJ w b2 b3 b5 g pre W) (hj : W.heap[j]? = some o) (ho : o.isCells = false) (hw : w.heap.size ≤ j) : ApJ w b2 b3 b5 g pre (W.putObj j o') := by
  obtain ⟨v, h1, h2⟩ := h.c5
  exact ⟨blk_putObj h.c2 hj ho, blk_putObj h.c3 hj ho, ⟨v, blk_putObj h1 hj ho, R_put h2 hj ho⟩, below_putObj h.hb o' hw, by have := h.gz; simpa [World.putObj] using this⟩
theorem ApX.put {j : Nat} {o o' : Obj} (h : ApX w b2 b3 W) (hj : W.heap[j]? = some o) (ho : o.isCells = false) (hw : w.heap.size ≤ j) : ApX w b2 b3 (W.putObj j o') :=
  ⟨blk_putObj h.c2 hj ho, blk_putObj h.c3 hj ho, below_putObj h.hb o' hw⟩
end
theorem apartL_five : ∀ {k : Nat} {pre : List Nat} {z : Int} {L : List Nat}, apartL k pre z = some (L, 5) → L = []
  | 0, _, _, _, h => by cases h
  | k + 1, pre, z, L, h => by
    rw [apartL] at h
    split at h
    · cases h
    · split at h
      · split at h
        · cases h; rfl
        · split at h
          · exact apartL_five h
          · cases h
      · cases h
attribute [local go_sem] Oper.semAt_some
theorem ap_info : (Tryz.prog.info? 25).map (fun i => (i.zero, i.size, i.bytes)) = some (some (.float .f64 0), 1, 8) := by kernel_rfl
theorem apart_ok (k kt : Nat) (A0 : Option Addr) (c0 : Nat) (l0 : List Nat) (w : World) (hr0 : Kd.C Kd.float w A0 l0.length l0) (hc0 : l0.length ≤ c0) (hn : l0.length < 4611686018427387904) (hL : Laid w) (h3 : faultL l0 = 0) (z : Int) (h4 : sums_total.f kt l0 = some (canN z (-1074))) (L : List Nat) (q : Int) (ha : apartL k [] z = some (L, q)) :
    Calls Tryz.prog 28 #[.slice A0 l0.length c0] w fun e w' => ∃ v, e = .returned (.tuple #[v, .int .i64 q]) ∧ Kd.R Kd.float 25 w' w.heap.size (fun _ => True) v L ∧ Below w.heap.size w w' := by
  have HL := asd hL
  have HR0 := asd hr0
  have HC0 := asd hc0
  have HN := asd hn
  have HB := asd (Below.refl w.heap.size w)
  have HF := asd h3
  have HA := asd ha
  have hu60 := Tryz.underlying60
  obtain ⟨⟨n, m, e⟩, hc⟩ : ∃ p, canN z (-1074) = p := ⟨_, rfl⟩
  rw [hc] at h4
  have HT := asd h4
  have HC := asd hc
  clear hr0 hc0 h3 h4 hL hn ha hc
  refine callsIn_wide.1 (callsIn_of_wp_marks (n := 5) Tryz.func28 rfl trivial (wpIn_wide.2 ?_))
  simp only [Tryz.ntmps28, List.size_toArray, List.length_cons, List.length_nil, Nat.reduceAdd, Nat.reduceSub, Array.replicate_succ, Array.replicate_zero, List.push_toArray, List.append_toArray, List.nil_append, List.cons_append]
  go_wp2_with (first
    | ((with_reducible refine gate_dst (N := 2) rfl ?_); refine box_event ?hg (N := 2) ?hd (cs := #[.slice none 0 0]) (t := 22) ?hr ?_; (case hd => rfl); (case hg => rfl); (case hr => first | (go_simp; done) | (go_simp; rfl)); intro b2 hg w1 hbox hb; have n1_ := asd (below_step HB.out hb); clear HB; have HB := n1_; clear n1_ hb; have K2 := asd hbox; clear hbox; have G2 := asd (by rw [hg]; exact Nat.le_refl _ : w.heap.size ≤ b2); clear hg)
    | ((with_reducible refine gate_dst (N := 3) rfl ?_); refine box_event ?hg (N := 3) ?hd (cs := #[.int .i64 0]) (t := 32) ?hr ?_; (case hd => rfl); (case hg => rfl); (case hr => first | (go_simp; done) | (go_simp; rfl)); intro b3 hg w2 hbox hb; have n1_ := asd (below_step HB.out hb); have n2_ := asd (blk_below K2.out hb); have N3 := asd (by rw [hg]; exact blk_lt K2.out : b2 < b3); clear HB K2; have HB := n1_; have K2 := n2_; clear n1_ n2_ hb; have K3 := asd hbox; clear hbox hg)
    | (go_at_call 50; refine (fault_one _ A0 c0 l0 0 _ (by exact blk_cell (blk_new _ _) 0) (Kd.C_below HR0.out (below_alloc HB.out _)) HC0.out HN.out HF.out).mono ?_; rintro e3 w3 ⟨rfl, d⟩; have n1_ := asd (below_step (below_alloc HB.out _) d); have n2_ := asd (blk_below (blk_alloc K2.out _) d); have n3_ := asd (blk_below (blk_alloc K3.out _) d); clear HB K2 K3 d; have HB := n1_; have K2 := n2_; have K3 := n3_; clear n1_ n2_ n3_)
    | ((with_reducible refine gate_dst (N := 5) rfl ?_); refine box_event ?hg (N := 5) ?hd (cs := #[.slice none 0 0]) (t := 22) ?hr ?_; (case hd => rfl); (case hg => rfl); (case hr => first | (go_simp; done) | (go_simp; rfl)); intro b5 hg w4 hbox hb; have n1_ := asd (below_step HB.out hb); have n2_ := asd (blk_below K2.out hb); have n3_ := asd (blk_below K3.out hb); have N5 := asd (by rw [hg]; exact blk_lt K3.out : b3 < b5); clear HB K2 K3; have HB := n1_; have K2 := n2_; have K3 := n3_; clear n1_ n2_ n3_ hb; have K5 := asd hbox; clear hbox hg)
    | (go_at_call 45; refine (sums_total.calls kt A0 c0 l0 n m e _ (Kd.C_below HR0.out HB.out) HC0.out HT.out (HL.out.step HB.out)).mono ?_; rintro e5 w5 ⟨v, rfl, r5, d⟩; have n1_ := asd (below_step HB.out d); have n2_ := asd (blk_below K2.out d); have n3_ := asd (blk_below K3.out d); have n5_ := asd (blk_below K5.out d); have R5 := asd (Kd.R_lower r5 (below_size HB.out)); clear HB K2 K3 K5 d r5; have HB := n1_; have K2 := n2_; have K3 := n3_; have K5 := n5_; clear n1_ n2_ n3_ n5_)
    | (go_at_call 71; refine (parts_make n v e _).mono ?_; rintro e6 w6 ⟨rfl, hw6⟩; have Kg := asd (by rw [hw6]; exact blk_new _ _ : w6.heap[w5.heap.size]? = some (Obj.cells #[.bool n, v, .int .i64 e] 60 (0, 0))); have d : Below w5.heap.size w5 w6 := (by rw [hw6]; exact below_alloc (Below.refl _ _) _); obtain ⟨g, hg⟩ : ∃ g, w5.heap.size = g := ⟨_, rfl⟩; have Ng := asd (Nat.lt_of_lt_of_eq (blk_lt K5.out) hg); have n1_ := asd (below_step HB.out d); have n2_ := asd (blk_below K2.out d); have n3_ := asd (blk_below K3.out d); have n5_ := asd (blk_below K5.out d); have n6_ := asd (Kd.R_below R5.out d); clear hw6 HB K2 K3 K5 R5 d; have HB := n1_; have K2 := n2_; have K3 := n3_; have K5 := n5_; have R5 := n6_; clear n1_ n2_ n3_ n5_ n6_; rw [hg] at Kg ⊢; clear hg))
  have hgw : w.heap.size ≤ g := by have := G2.out; have := N3.out; have := N5.out; have := Ng.out; omega
  have n2 : b2 ≠ g := by have := N3.out; have := N5.out; have := Ng.out; omega
  have n3 : b3 ≠ g := by have := N5.out; have := Ng.out; omega
  have n5 : b5 ≠ g := by have := Ng.out; omega
  have hsz : w.heap.size ≤ w6.heap.size := HB.out.size
  refine (wpIn_wide (n := 5)).1 (range_parts w g (ApJ w b2 b3 b5 g) (ApX w b2 b3) rfl hgw (blk_lt Kg.out) rfl HL.out (fun _ _ _ h k => h.below k) (fun _ _ _ _ h => h.far n2 n3 n5 hgw _ _) (fun _ _ h => h.hb)
    (fun _ _ _ _ _ h hj hk ho _ => h.put hk ho (by omega)) (fun _ _ _ _ h hj hk ho _ => h.put hk ho (by omega)) ?round ⟨K2.out, K3.out, ⟨_, K5.out, Kd.R_nil _ _ _ _ _⟩, HB.out, blk_lt Kg.out⟩ z ⟨v, by rw [HC.out]; exact Kg.out, by rw [HC.out]; exact R5.out⟩ k L q HA.out ?done ?stop)
  case round =>
    rintro l pre f W hI hp
    gi_wp2
    refine ⟨trivial, fun W1 hI1 => ?_⟩
    clear hI W
    obtain ⟨i0, hi, hz0, hz1, hz2⟩ := info_parts ap_info
    obtain ⟨v5, k5, r5⟩ := hI1.c5
    have Z2 := asd hI1.c2
    have Z3 := asd hI1.c3
    have Z5 := asd k5
    have O5 := asd (Kd.own_of_R r5)
    have R5_ := asd r5
    have HB1 := asd hI1.hb
    have GZ := asd hI1.gz
    have d23 : b2 ≠ b3 := by have := N3.out; omega
    have d32 : b3 ≠ b2 := by have := N3.out; omega
    have d25 := asd (show b2 ≠ b5 by have := N3.out; have := N5.out; omega)
    have d35 := asd (show b3 ≠ b5 by have := N3.out; have := N5.out; omega)
    have H2_ := asd (show w.heap.size ≤ b2 from G2.out)
    have H3_ := asd (show w.heap.size ≤ b3 by have := G2.out; have := N3.out; omega)
    have H5_ := asd (show w.heap.size ≤ b5 by have := G2.out; have := N3.out; have := N5.out; omega)
    clear k5 r5 hI1
    by_cases hf : infB? f = true
    · have IF := asd (by rw [inf_some, hf] : math_IsInf.f f 0 = some true)
      gi_wp2_with (refine ⟨trivial, ?_⟩; gi_at_call 43; refine (CallsIn.inRound l (callsIn_wide.2 (math_IsInf.calls f 0 true _ IF.out))).mono ?_; rintro e' w' ⟨rfl, ⟨nd, rfl⟩⟩; have n2_ := blk_drewN Z2.out nd; have n3_ := blk_drewN Z3.out nd; have hb_ := pw_below_drewN HB1.out nd; have kf_ : KeepsFrom w6.heap.size W1 (W1.drewN nd) := (⟨Nat.le_refl _, fun _ _ _ h _ => h⟩); generalize W1.drewN nd = W2 at n2_ n3_ hb_ kf_ ⊢; have Z2_ := asd n2_; have Z3_ := asd n3_; have HB_ := asd hb_; have KF_ := asd kf_; clear n2_ n3_ hb_ kf_ Z2 Z3 Z5 O5 R5_; have z2 := (blk_cell Z2_.out 0).trans rfl; have y2 := blk_frozen Z2_.out 0; have z3 := (blk_cell Z3_.out 0).trans rfl; have y3 := blk_frozen Z3_.out 0)
      exact ⟨hf, ⟨blk_far (blk_put (cs := #[.slice none 0 0]) Z2_.out 0 _ rfl) d23 _, blk_put (cs := #[.int .i64 0]) (blk_far Z3_.out d32 _) 0 _ rfl, below_set (below_set HB_.out H2_.out) H3_.out⟩, KF_.out.trans (((KeepsOthers.setCell _ _ _).trans (KeepsOthers.setCell _ _ _)).from _)⟩
    · have hf : infB? f = false := by simpa using hf
      have IF := asd (by rw [inf_some, hf] : math_IsInf.f f 0 = some false)
      gi_wp2_with (first
        | (refine ⟨trivial, ?_⟩; gi_at_call 43; refine (CallsIn.inRound l (callsIn_wide.2 (math_IsInf.calls f 0 false _ IF.out))).mono ?_; rintro e' w' ⟨rfl, ⟨nd, rfl⟩⟩; have n2_ := blk_drewN Z2.out nd; have n3_ := blk_drewN Z3.out nd; have n5_ := blk_drewN Z5.out nd; have o5_ := pw_own_drewN O5.out nd; have r5_ := Kd.R_drewN R5_.out nd; have hb_ := pw_below_drewN HB1.out nd; have kf_ : KeepsFrom w6.heap.size W1 (W1.drewN nd) := (⟨Nat.le_refl _, fun _ _ _ h _ => h⟩); have kt_ : KeepT W1 (W1.drewN nd) := (fun _ _ _ _ h => h); generalize W1.drewN nd = W2 at n2_ n3_ n5_ o5_ r5_ hb_ kf_ kt_ ⊢; have Z2_ := asd n2_; have Z3_ := asd n3_; have Z5_ := asd n5_; have O5_ := asd o5_; have R5__ := asd r5_; have HB_ := asd hb_; have KF_ := asd kf_; have KT_ := asd kt_; clear n2_ n3_ n5_ o5_ r5_ hb_ kf_ kt_ Z2 Z3 Z5 O5 R5_; have z5 := (blk_cell Z5_.out 0).trans rfl; have y5 := blk_frozen Z5_.out 0)
        | (gi_at_builtin; refine wpListIn_append_own_at _ rfl _ _ 22 rfl w.heap.size 25 i0 (.float .f64 0) 1 8 Tryz.underlying22 hi hz0 hz1 hz2 rfl (by decide) _ _ _ rfl (own_alloc O5_.out _) ⟨W2.heap.size, 0, none⟩ 1 1 [.float .f64 f] rfl rfl (cell_one_new _ _ _) (by simp [Value.oneCell']) (by unfold maxLen; omega) (by omega) (by have := HB_.out.size; simp; omega) ?_; intro v' w1 hown' hgrow _ hat; have hap := ApJ.append Z2_.out Z3_.out Z5_.out R5__.out HB_.out (Nat.lt_of_lt_of_le GZ.out KF_.out.size) d25.out d35.out H5_.out n5 hown' hgrow hat; have AP := asd hap.2; have z5 := (blk_cell hap.1 0).trans rfl; have y5 := blk_frozen hap.1 0; clear hap; obtain ⟨g', cap', rfl⟩ := ownsRow_succ hown'; clear hown' hgrow hat))
      exact ⟨hf, AP.out.1, fun j cs t ht hj => AP.out.2.1 j cs t ht (KT_.out j cs t ht hj), KF_.out.trans (AP.out.2.2 _)⟩
  case done =>
    intro hq D W hD hJ hK
    obtain ⟨v5, k5, r5⟩ := hJ.c5
    obtain ⟨A5, c5, rfl⟩ := Kd.R_slice r5
    have Z2 := asd hJ.c2
    have Z3 := asd hJ.c3
    have Z5 := asd k5
    have R5_ := asd r5
    have HB_ := asd hJ.hb
    have HK := asd hK
    have HQ := asd hq
    have H2_ := asd (show w.heap.size ≤ b2 from G2.out)
    have H3_ := asd (show w.heap.size ≤ b3 by have := G2.out; have := N3.out; omega)
    have d23 : b2 ≠ b3 := by have := N3.out; omega
    have d32 : b3 ≠ b2 := by have := N3.out; omega
    clear k5 r5 hJ hK hq
    have z2 := (blk_cell Z2.out 0).trans rfl
    have y2 := blk_frozen Z2.out 0
    have z3 := (blk_cell Z3.out 0).trans rfl
    have y3 := blk_frozen Z3.out 0
    have z5 := (blk_cell Z5.out 0).trans rfl
    have y5 := blk_frozen Z5.out 0
    go_wp2
    have hK2 : ((W.setCell ⟨b2, 0, none⟩ (.slice A5 L.length c5)).setCell ⟨b3, 0, none⟩ (.int .i64 0)).heap[D]? = some (.deferred (some [])) := ((KeepsOthers.setCell _ _ _).same D _ ((KeepsOthers.setCell _ _ _).same D _ HK.out rfl) rfl)
    have u2 := blk_putObj (blk_far (blk_put (cs := #[.slice none 0 0]) Z2.out 0 (.slice A5 L.length c5) rfl) d23 (.int .i64 0)) hK2 (o' := .deferred none) rfl
    have u3 := blk_putObj (blk_put (cs := #[.int .i64 0]) (blk_far Z3.out d32 (.slice A5 L.length c5)) 0 (.int .i64 0) rfl) hK2 (o' := .deferred none) rfl
    have z2 := (blk_cell u2 0).trans rfl
    have z3 := (blk_cell u3 0).trans rfl
    have v2 := blk_frozen u2 0
    have v3 := blk_frozen u3 0
    have hfin : Aside0 (Kd.R Kd.float 25 (((W.setCell ⟨b2, 0, none⟩ (.slice A5 L.length c5)).setCell ⟨b3, 0, none⟩ (.int .i64 0)).putObj D (.deferred none)) w.heap.size (fun _ => True) (.slice A5 L.length c5) L) := ⟨R_put (Kd.R_mono (Kd.R_far (p := ⟨b3, 0, none⟩) (Kd.R_types (Kd.R_far (p := ⟨b2, 0, none⟩) (Kd.R_types R5_.out Z2.out (by decide)) (fun _ hk => hk.2) (.slice A5 L.length c5)) (blk_far Z3.out d32 (.slice A5 L.length c5)) (by decide)) (fun _ hk => hk.2) (.int .i64 0)) (fun _ _ => trivial)) hK2 rfl⟩
    have hDw : w.heap.size ≤ D := Nat.le_trans hsz hD
    refine ⟨by simp, .inl ⟨_, _, rfl, run_takeDeferred hK2, ?_⟩⟩
    rw [HQ.out]
    refine ⟨.tuple #[.slice A5 L.length c5, .int .i64 0], ?_, _, rfl, hfin.out, below_putObj (below_set (below_set HB_.out H2_.out) H3_.out) _ hDw⟩
    simp [results, Tryz.results28, go_sem, z2, z3, v2, v3]
  case stop =>
    intro hq D W hD hX hK
    have Z2 := asd hX.c2
    have Z3 := asd hX.c3
    have HB_ := asd hX.hb
    have HK := asd hK
    have HQ := asd hq
    clear hX hK hq
    refine wpIn_wide.2 ?_
    go_wp2
    have u2 := blk_putObj Z2.out HK.out (o' := .deferred none) rfl
    have u3 := blk_putObj Z3.out HK.out (o' := .deferred none) rfl
    have z2 := (blk_cell u2 0).trans rfl
    have z3 := (blk_cell u3 0).trans rfl
    have v2 := blk_frozen u2 0
    have v3 := blk_frozen u3 0
    refine ⟨by simp, .inl ⟨_, _, rfl, run_takeDeferred HK.out, ?_⟩⟩
    rw [HQ.out]
    have hnil : [] = L := (apartL_five (k := k) (pre := []) (z := z) (by rw [← HQ.out]; exact HA.out)).symm
    refine ⟨.tuple #[.slice none 0 0, .int .i64 5], ?_, _, rfl, hnil ▸ Kd.R_nil _ _ _ _ _, below_putObj HB_.out _ (Nat.le_trans hsz hD)⟩
    simp [results, Tryz.results28, go_sem, z2, z3, v2, v3]
end Go.Proofs.YthmeocigliephaaGreatDoor.Big
end
section
namespace Go.Proofs.YthmeocigliephaaGreatDoor.Big
open Go.Proofs.YthmeocigliephaaGreatDoor.PSu Go.Proofs.YthmeocigliephaaGreatDoor.Plain Ieee
theorem compare_mul (x y : Int) (k : Nat) : compare (x * 2 ^ k) (y * 2 ^ k) = compare x y := by
  have hp : (0 : Int) < 2 ^ k := Int.pow_pos (by omega)
  rcases Int.lt_trichotomy x y with h | h | h
  · have h2 := Int.mul_lt_mul_of_pos_right h hp
    rw [Int.compare_eq_lt.2 h, Int.compare_eq_lt.2 h2]
  · subst h; rw [Int.compare_eq_eq.2 rfl, Int.compare_eq_eq.2 rfl]
  · have h2 := Int.mul_lt_mul_of_pos_right h hp
    rw [Int.compare_eq_gt.2 h, Int.compare_eq_gt.2 h2]
theorem signed_mul (s : Bool) (m u k : Nat) : signed s m u * 2 ^ k = (if s then -(m : Int) else m) * 2 ^ (u + k) := by
  unfold signed
  rw [Nat.shiftLeft_eq, Int.pow_add, ← Int.mul_assoc]
  cases s
  · simp [Int.natCast_mul, Int.natCast_pow]
  · simp [Int.natCast_mul, Int.natCast_pow, Int.neg_mul]
theorem order_fin {a b : Nat} (ha : Fin64 a) (hb : Fin64 b) : FloatKind.f64.format.order a b = some (compare (flz a) (flz b)) := by
  have ea := expoV_range ha
  have eb := expoV_range hb
  show double.order a b = _
  unfold Format.order
  rw [read_fin ha, read_fin hb]
  unfold Datum.order
  simp only
  congr 1
  rw [← compare_mul _ _ (min (expoV a) (expoV b) + 1074).toNat, signed_mul, signed_mul]
  unfold flz floV
  congr 3 <;> omega
theorem kind_cases {b : Nat} (h : b < 18446744073709551616) : Fin64 b ∨ b % 9223372036854775808 = 9218868437227405312 ∨ 9218868437227405312 < b % 9223372036854775808 := by
  unfold Fin64; omega
theorem read_inf {b : Nat} (h : b < 18446744073709551616) (h2 : b % 9223372036854775808 = 9218868437227405312) : double.read b = .infinity (sgn b) := by
  have : b = 9218868437227405312 ∨ b = 18442240474082181120 := by omega
  rcases this with rfl | rfl <;> rfl
theorem read_nan {b : Nat} (h2 : 9218868437227405312 < b % 9223372036854775808) : ∃ s f, double.read b = .nan s f := by
  unfold Format.read
  simp only [sw, bn, ir, lp]
  rw [if_neg (by omega), if_neg (by omega), if_neg (by omega)]
  exact ⟨_, _, rfl⟩
theorem nan_law {b : Nat} (h : b < 18446744073709551616) : nanB b = decide (9218868437227405312 < b % 9223372036854775808) := by
  unfold nanB
  rcases kind_cases h with hk | hk | hk
  · rw [nan_fin hk, decide_eq_false (by have := hk.2; omega)]
  · rw [decide_eq_false (by omega)]
    have : FloatKind.f64.format.order b b = some .eq := by
      show double.order b b = _
      unfold Format.order
      rw [read_inf h hk]
      cases sgn b <;> rfl
    rw [this]; rfl
  · rw [decide_eq_true hk]
    have : FloatKind.f64.format.order b b = none := by
      show double.order b b = _
      obtain ⟨s, f, hr⟩ := read_nan hk
      unfold Format.order
      rw [hr]; rfl
    rw [this]; rfl
theorem inf_law {b : Nat} (h : b < 18446744073709551616) : infB? b = (b % 9223372036854775808 == 9218868437227405312) := by
  have hu : infB? b = (FloatKind.f64.format.order (b % 9223372036854775808) 9218868437227405311 == some .gt) := by
    unfold infB? math_IsInf.f math_Abs.f
    rw [if_pos rfl, Option.bind_some, bits_abs b h]
    simp only [Int.toNat_natCast, Option.getD_some]
  rw [hu]
  rcases kind_cases h with hk | hk | hk
  · rw [order_max hk]
    have := hk.2
    symm; rw [beq_eq_false_iff_ne]; omega
  · rw [hk]; decide
  · have : FloatKind.f64.format.order (b % 9223372036854775808) 9218868437227405311 = none := by
      show double.order _ _ = _
      obtain ⟨s, f, hr⟩ := read_nan (b := b % 9223372036854775808) (by omega)
      unfold Format.order
      rw [hr]; rfl
    rw [this]
    have : (b % 9223372036854775808 == 9218868437227405312) = false := by rw [beq_eq_false_iff_ne]; omega
    rw [this]; rfl
theorem flz_zero {b : Nat} (h : Fin64 b) : flz b = 0 ↔ b % 9223372036854775808 = 0 := by
  have hp : (0 : Int) < 2 ^ (expoV b + 1074).toNat := Int.pow_pos (by omega)
  have h1 : flz b = 0 ↔ manti b = 0 := by
    have hf := @floV_natAbs b
    unfold flz
    constructor
    · intro h
      rcases Int.mul_eq_zero.1 h with h | h <;> omega
    · intro h
      have : floV b = 0 := by omega
      rw [this, Int.zero_mul]
  rw [h1]
  have hx := expo_le h
  have := h.1
  unfold manti frac expo at *
  split <;> omega
theorem signbit_law {b : Nat} (h : b < 18446744073709551616) : math_Signbit.f b = some (decide (9223372036854775808 ≤ b)) := by
  unfold math_Signbit.f
  congr 1
  rw [decide_eq_decide]
  unfold wrap64
  omega
end Go.Proofs.YthmeocigliephaaGreatDoor.Big
end
section
namespace Go.Proofs.YthmeocigliephaaGreatDoor.Big
open Go.Proofs.YthmeocigliephaaGreatDoor.PSu Go.Proofs.YthmeocigliephaaGreatDoor.Plain Ieee
def sumV (a b : Nat) : Nat :=
  if nanB a = true ∨ nanB b = true then 9221120237041090561
  else if infB? a = true then a else if infB? b = true then b
  else if flz a + flz b = 0 then (if sgn a = true ∧ sgn b = true then 9223372036854775808 else 0) else rndZ (flz a + flz b) 2
def opp (a b : Nat) : Prop := infB? a = true ∧ infB? b = true ∧ sgn a ≠ sgn b
theorem fin_kind {b : Nat} (h : b < 18446744073709551616) (h1 : nanB b = false) (h2 : infB? b = false) : Fin64 b := fin_of h h1 h2
theorem kind_fin {b : Nat} (h : Fin64 b) : nanB b = false ∧ infB? b = false := by
  rw [nan_law h.1, inf_law h.1]
  have := h.2
  exact ⟨decide_eq_false (by omega), by rw [beq_eq_false_iff_ne]; omega⟩
theorem add_inf {a b : Nat} (ha : a < 18446744073709551616) (hb : b < 18446744073709551616) (h1 : infB? a = true ∨ infB? b = true) (h2 : nanB a = false) (h3 : nanB b = false) (h4 : ¬ opp a b) :
    floatBits .add .f64 a b = some (if infB? a = true then a else b) := by
  have ri : ∀ {x : Nat}, x < 18446744073709551616 → infB? x = true → double.read x = .infinity (sgn x) ∧ double.write (.infinity (sgn x)) = x := by
    intro x hx h
    rw [inf_law hx] at h
    have h := beq_iff_eq.1 h
    refine ⟨read_inf hx h, ?_⟩
    have : x = 9218868437227405312 ∨ x = 18442240474082181120 := by omega
    rcases this with rfl | rfl <;> rfl
  show double.add a b = _
  unfold Format.add
  by_cases ia : infB? a = true
  · obtain ⟨r1, w1⟩ := ri ha ia
    rw [r1, if_pos ia]
    by_cases ib : infB? b = true
    · obtain ⟨r2, w2⟩ := ri hb ib
      have he : sgn a = sgn b := Classical.byContradiction fun h => h4 ⟨ia, ib, h⟩
      rw [r2]
      unfold Datum.sum
      simp only
      rw [if_pos he, Option.map_some, w1]
    · have fb := fin_kind hb h3 (by simpa using ib)
      rw [read_fin fb]
      unfold Datum.sum
      simp only
      rw [Option.map_some, w1]
  · have ib : infB? b = true := h1.resolve_left ia
    have fa := fin_kind ha h2 (by simpa using ia)
    obtain ⟨r2, w2⟩ := ri hb ib
    rw [r2, read_fin fa, if_neg ia]
    unfold Datum.sum
    simp only
    rw [Option.map_some, w2]
theorem oz_law {x : Nat} (hx : Fin64 x) : (FloatKind.f64.format.order x 0 == some .eq) = decide (flz x = 0) := by
  have h0 : Fin64 0 := by decide
  have z0 : flz 0 = 0 := (flz_zero h0).2 rfl
  rw [order_fin hx h0, z0]
  by_cases hz : flz x = 0
  · rw [hz]; rfl
  · rw [decide_eq_false hz, beq_eq_false_iff_ne]
    intro hc
    exact hz (Int.compare_eq_eq.1 (Option.some.inj hc))
theorem sg_law {x : Nat} (hz : flz x ≠ 0) : sgn x = decide (flz x < 0) := by
  have hp : (0 : Int) < 2 ^ (expoV x + 1074).toNat := Int.pow_pos (by omega)
  have hm : manti x ≠ 0 := fun hm => hz (by unfold flz floV; rw [hm]; simp)
  unfold flz floV
  cases hs : sgn x
  · rw [if_neg (by simp)]
    have := Int.mul_pos (show (0 : Int) < manti x by omega) hp
    rw [decide_eq_false (by omega)]
  · rw [if_pos rfl]
    have := Int.mul_pos (show (0 : Int) < manti x by omega) hp
    rw [Int.neg_mul, decide_eq_true (by omega)]
theorem rnd_lt (z : Int) (mode : Int) : rndZ z mode < 18446744073709551616 := by
  unfold rndZ
  split
  · omega
  · rename_i h
    have hn : z.natAbs ≠ 0 := by omega
    rw [roundV_eq]
    have := magV_le z.natAbs (-1074) (if decide (z < 0) = true then mode == 1 else mode == 3) (mode == 2) hn
    unfold infB at this
    unfold signV
    generalize magV z.natAbs (-1074) (if decide (z < 0) = true then mode == 1 else mode == 3) (mode == 2) = q at this ⊢
    split <;> omega
theorem sumV_lt {a b : Nat} (ha : a < 18446744073709551616) (hb : b < 18446744073709551616) : sumV a b < 18446744073709551616 := by
  unfold sumV
  split
  · omega
  · split
    · exact ha
    · split
      · exact hb
      · split
        · split <;> omega
        · exact rnd_lt _ _
theorem opp_cases {a b : Nat} (ha : a < 18446744073709551616) (hb : b < 18446744073709551616) (h : opp a b) : (a = 9218868437227405312 ∧ b = 18442240474082181120) ∨ (a = 18442240474082181120 ∧ b = 9218868437227405312) := by
  obtain ⟨h1, h2, h3⟩ := h
  rw [inf_law ha] at h1
  rw [inf_law hb] at h2
  have h1 := beq_iff_eq.1 h1
  have h2 := beq_iff_eq.1 h2
  have ca : a = 9218868437227405312 ∨ a = 18442240474082181120 := by omega
  have cb : b = 9218868437227405312 ∨ b = 18442240474082181120 := by omega
  rcases ca with rfl | rfl <;> rcases cb with rfl | rfl
  · exact absurd rfl h3
  · exact .inl ⟨rfl, rfl⟩
  · exact .inr ⟨rfl, rfl⟩
  · exact absurd rfl h3
def nanR (x y : Nat) (w : World) : Nat := Question.cut (.nanBits .f64 x y) (w.tape w.drawn (.nanBits .f64 x y))
theorem nanR_nan (x y : Nat) (w : World) : nanB (nanR x y w) = true ∧ nanR x y w < 18446744073709551616 := by
  have : nanR x y w < 18446744073709551616 ∧ 9218868437227405312 < nanR x y w % 9223372036854775808 := by
    unfold nanR Question.cut
    simp only
    generalize w.tape w.drawn (.nanBits .f64 x y) = t
    have hu : t % 2 = 0 ∨ t % 2 = 1 := by omega
    have hv : t / 2 % (2 ^ 52 - 1) < 2 ^ 52 - 1 := Nat.mod_lt _ (by decide)
    generalize t / 2 % (2 ^ 52 - 1) = v at hv ⊢
    rcases hu with hu | hu <;> rw [hu] <;> omega
  exact ⟨by rw [nan_law this.1, decide_eq_true this.2], this.1⟩
theorem run_nan {P : Program} (x y : Nat) (t : TypeId) (w : World) (h : floatBits .add .f64 x y = none) : (binOp .add t (.float .f64 x) (.float .f64 y)).run P w = .ok (.float .f64 (nanR x y w)) w.drew := by
  have h' : FloatKind.f64.format.add x y = none := h
  simp [binOp, Op.floatArith, h', Question.forced, nanR]
instance instDecOpp (a b : Nat) : Decidable (opp a b) := inferInstanceAs (Decidable (_ ∧ _ ∧ _))
def relN (r t : Nat) : Prop := r = t ∨ nanB r = true ∧ nanB t = true
def sumT (a b : Nat) : Nat := if opp a b then 9221120237041090560 else sumV a b
theorem sumT_lt {a b : Nat} (ha : a < 18446744073709551616) (hb : b < 18446744073709551616) : sumT a b < 18446744073709551616 := by
  unfold sumT
  split
  · omega
  · exact sumV_lt ha hb
theorem sumV_nan {a b : Nat} (h : nanB a = true ∨ nanB b = true) : sumV a b = 9221120237041090561 := by unfold sumV; rw [if_pos h]
theorem nan_not_inf {b : Nat} (hb : b < 18446744073709551616) (h : nanB b = true) : infB? b = false := by
  rw [nan_law hb] at h
  rw [inf_law hb, beq_eq_false_iff_ne]
  have := of_decide_eq_true h
  omega
theorem sumT_nan {a b : Nat} (ha : a < 18446744073709551616) (hb : b < 18446744073709551616) (h : nanB a = true ∨ nanB b = true) : nanB (sumT a b) = true := by
  unfold sumT
  rw [if_neg]
  · rw [sumV_nan h]; decide +kernel
  · rintro ⟨h1, h2, _⟩
    rcases h with h | h
    · rw [nan_not_inf ha h] at h1; cases h1
    · rw [nan_not_inf hb h] at h2; cases h2
theorem relN_sum {a b a' b' : Nat} (ha : a < 18446744073709551616) (hb : b < 18446744073709551616) (ha' : a' < 18446744073709551616) (hb' : b' < 18446744073709551616) (h1 : relN a a') (h2 : relN b b') : relN (sumT a b) (sumT a' b') := by
  rcases h1 with rfl | ⟨n1, n2⟩
  · rcases h2 with rfl | ⟨n1, n2⟩
    · exact .inl rfl
    · exact .inr ⟨sumT_nan ha hb (.inr n1), sumT_nan ha hb' (.inr n2)⟩
  · exact .inr ⟨sumT_nan ha hb (.inl n1), sumT_nan ha' hb' (.inl n2)⟩
theorem relN_eq {r t : Nat} (h : relN r t) (hn : nanB t = false) : r = t := by
  rcases h with h | ⟨_, h⟩
  · exact h
  · rw [h] at hn; cases hn
theorem relN_trans {a b c : Nat} (h1 : relN a b) (h2 : relN b c) : relN a c := by
  rcases h1 with rfl | ⟨n1, n2⟩
  · exact h2
  · rcases h2 with rfl | ⟨_, n4⟩
    · exact .inr ⟨n1, n2⟩
    · exact .inr ⟨n1, n4⟩
end Go.Proofs.YthmeocigliephaaGreatDoor.Big
end
section
namespace Go.Proofs.YthmeocigliephaaGreatDoor.Big
open Go.Proofs.YthmeocigliephaaGreatDoor.PSu Go.Proofs.YthmeocigliephaaGreatDoor.Plain
def RetRel (t : Nat) (w : World) (e : Ending) (w' : World) : Prop := ∃ r, relN r t ∧ r < 18446744073709551616 ∧ e = .returned (.float .f64 r) ∧ Below w.heap.size w w'
theorem rnum_fin (b : Nat) (w : World) (hb : Fin64 b) (hL : Laid w) :
    Calls Tryz.prog 115 #[.float .f64 b] w fun e w' => ∃ v1_ : Value, e = .returned (.agg #[.bool (canN (flz b) (-1074)).1, v1_, .int .i64 (canN (flz b) (-1074)).2.2]) ∧ Kd.R (Kd.int .u32) 83 w' w.heap.size (fun _ => True) v1_ (canN (flz b) (-1074)).2.1 ∧ Below w.heap.size w w' :=
  round_num.calls b _ _ _ w (by rw [rnum_law hb]) hL
theorem nought_fin (a b : Nat) (w : World) (ha : Fin64 a) (hb : Fin64 b) (h : flz a + flz b = 0) :
    Calls Tryz.prog 116 #[.float .f64 a, .float .f64 b, .int .i64 2] w fun e w' => e = .returned (.float .f64 (if sgn a = true ∧ sgn b = true then 9223372036854775808 else 0)) ∧ Below w.heap.size w w' := by
  have sa := asd (show math_Signbit.f a = some (sgn a) from signbit_law ha.1)
  have sb := asd (show math_Signbit.f b = some (sgn b) from signbit_law hb.1)
  have oa := oz_law ha
  have ob := oz_law hb
  have tok1 : True := trivial
  by_cases za : flz a = 0
  · have zb : flz b = 0 := by omega
    rw [decide_eq_true za] at oa
    rw [decide_eq_true zb] at ob
    clear ha hb h za zb
    rcases hx : sgn a with _ | _ <;> rcases hy : sgn b with _ | _ <;> rw [hx] at sa <;> rw [hy] at sb <;> clear hx hy
    all_goals
      go_enter Tryz.func116, Tryz.ntmps116
      go_wp2_with (first
        | (go_at_call 54; have _t := tok1; refine (math_Signbit.calls a _ _ sa.out).mono ?_; rintro e w1 ⟨rfl, d⟩; have B1 := asd d.below; clear d _t tok1)
        | (go_at_call 54; refine (math_Signbit.calls b _ _ sb.out).mono ?_; rintro e w2 ⟨rfl, d⟩; have B2 := asd (below_post d.below B1.out); clear d)
        | (go_at_call 55; refine (math_Copysign.calls 0 13830554455654793216 9223372036854775808 _ (by decide)).mono ?_; rintro e w3 ⟨rfl, d⟩; have B2 := asd (below_post d.below B2.out); clear d))
      go_ret
      exact ⟨rfl, B2.out⟩
  · have zb : flz b ≠ 0 := by omega
    rw [decide_eq_false za] at oa
    have hn : ¬ (sgn a = true ∧ sgn b = true) := by
      rw [sg_law za, sg_law zb, decide_eq_true_eq, decide_eq_true_eq]; omega
    rw [if_neg hn]
    clear ha hb h za zb ob hn
    obtain ⟨x, hx⟩ : ∃ x, sgn a = x := ⟨_, rfl⟩
    obtain ⟨y, hy⟩ : ∃ y, sgn b = y := ⟨_, rfl⟩
    rw [hx] at sa
    rw [hy] at sb
    clear hx hy
    go_enter Tryz.func116, Tryz.ntmps116
    go_wp2_with (first
      | (go_at_call 54; have _t := tok1; refine (math_Signbit.calls a _ _ sa.out).mono ?_; rintro e w1 ⟨rfl, d⟩; have B1 := asd d.below; clear d _t tok1)
      | (go_at_call 54; refine (math_Signbit.calls b _ _ sb.out).mono ?_; rintro e w2 ⟨rfl, d⟩; have B2 := asd (below_post d.below B1.out); clear d))
    go_ret
    exact ⟨rfl, B2.out⟩
section
variable (a b : Nat) (w : World)
theorem add_nan (h : nanB a = true ∨ nanB b = true) : Calls Tryz.prog 84 #[.float .f64 a, .float .f64 b, .int .i64 2] w fun e w' => e = .returned (.float .f64 9221120237041090561) ∧ Below w.heap.size w w' := by
  have HV := asd (round_yes (m := 2) (by omega))
  have tok1 : True := trivial
  rcases hx : nanB a with _ | _
  · have hb : (FloatKind.f64.format.order b b != some .eq) = true := h.resolve_left (by rw [hx]; simp)
    have ha : (FloatKind.f64.format.order a a != some .eq) = false := hx
    clear h hx
    go_enter Tryz.func84, Tryz.ntmps84
    go_wp2_with (first
      | (go_at_call 49; refine (round_Valid.calls 2 0 _ HV.out).mono ?_; rintro e w1 ⟨rfl, d⟩; have B1 := asd d.below; clear d)
      | (go_at_call 113; refine (math_NaN.calls _ _ rfl).mono ?_; rintro e w2 ⟨rfl, d⟩; have B2 := asd (below_post d.below B1.out); clear d))
    go_ret
    exact ⟨rfl, B2.out⟩
  · have ha : (FloatKind.f64.format.order a a != some .eq) = true := hx
    clear h hx
    go_enter Tryz.func84, Tryz.ntmps84
    go_wp2_with (first
      | (go_at_call 49; refine (round_Valid.calls 2 0 _ HV.out).mono ?_; rintro e w1 ⟨rfl, d⟩; have B1 := asd d.below; clear d)
      | (go_at_call 113; refine (math_NaN.calls _ _ rfl).mono ?_; rintro e w2 ⟨rfl, d⟩; have B2 := asd (below_post d.below B1.out); clear d))
    go_ret
    exact ⟨rfl, B2.out⟩
theorem infinite_any (x : Nat) : round_infinite.f x = some (infB? x) := by
  unfold round_infinite.f
  rw [inf_some x]; rfl
theorem add_infs (h1 : nanB a = false) (h2 : nanB b = false) (h : infB? a = true ∨ infB? b = true) (v : Nat) (hv : floatBits .add .f64 a b = some v) :
    Calls Tryz.prog 84 #[.float .f64 a, .float .f64 b, .int .i64 2] w fun e w' => e = .returned (.float .f64 v) ∧ Below w.heap.size w w' := by
  have HV := asd (round_yes (m := 2) (by omega))
  have ha : (FloatKind.f64.format.order a a != some .eq) = false := h1
  have hb : (FloatKind.f64.format.order b b != some .eq) = false := h2
  have hrun := fun (w : World) => run_float_arith (P := Tryz.prog) w .add 25 .f64 a b v hv
  have IA := asd (infinite_any a)
  have IB := asd (infinite_any b)
  have tok1 : True := trivial
  rcases hx : infB? a with _ | _
  · have hy := h.resolve_left (by rw [hx]; simp)
    rw [hx] at IA
    rw [hy] at IB
    clear h h1 h2 hx hy hv
    go_enter Tryz.func84, Tryz.ntmps84
    go_wp2_with (first
      | (go_at_call 49; refine (round_Valid.calls 2 0 _ HV.out).mono ?_; rintro e w1 ⟨rfl, d⟩; have B1 := asd d.below; clear d)
      | (go_at_call 114; have _t := tok1; refine (round_infinite.calls a _ _ IA.out).mono ?_; rintro e w2 ⟨rfl, d⟩; have B2 := asd (below_post d.below B1.out); clear d _t tok1)
      | (go_at_call 114; refine (round_infinite.calls b _ _ IB.out).mono ?_; rintro e w3 ⟨rfl, d⟩; have B3 := asd (below_post d.below B2.out); clear d))
    go_ret
    exact ⟨rfl, B3.out⟩
  · rw [hx] at IA
    clear h h1 h2 hx hv
    go_enter Tryz.func84, Tryz.ntmps84
    go_wp2_with (first
      | (go_at_call 49; refine (round_Valid.calls 2 0 _ HV.out).mono ?_; rintro e w1 ⟨rfl, d⟩; have B1 := asd d.below; clear d)
      | (go_at_call 114; refine (round_infinite.calls a _ _ IA.out).mono ?_; rintro e w2 ⟨rfl, d⟩; have B2 := asd (below_post d.below B1.out); clear d))
    go_ret
    exact ⟨rfl, B2.out⟩
theorem add_opp (h : (a = 9218868437227405312 ∧ b = 18442240474082181120) ∨ (a = 18442240474082181120 ∧ b = 9218868437227405312)) :
    Calls Tryz.prog 84 #[.float .f64 a, .float .f64 b, .int .i64 2] w fun e w' => ∃ r, nanB r = true ∧ r < 18446744073709551616 ∧ e = .returned (.float .f64 r) ∧ Below w.heap.size w w' := by
  have ha : (FloatKind.f64.format.order a a != some .eq) = false := by rcases h with ⟨rfl, rfl⟩ | ⟨rfl, rfl⟩ <;> decide +kernel
  have hb : (FloatKind.f64.format.order b b != some .eq) = false := by rcases h with ⟨rfl, rfl⟩ | ⟨rfl, rfl⟩ <;> decide +kernel
  have hi : round_infinite.f a = some true := by rcases h with ⟨rfl, rfl⟩ | ⟨rfl, rfl⟩ <;> decide +kernel
  have hn : floatBits .add .f64 a b = none := by rcases h with ⟨rfl, rfl⟩ | ⟨rfl, rfl⟩ <;> decide +kernel
  have hrun := fun (w : World) => run_nan (P := Tryz.prog) a b 25 w hn
  have HI := asd hi
  have HV := asd (round_yes (m := 2) (by omega))
  clear hi hn h
  go_enter Tryz.func84, Tryz.ntmps84
  go_wp2_with (first
    | (go_at_call 49; refine (round_Valid.calls 2 0 _ HV.out).mono ?_; rintro e w1 ⟨rfl, d⟩; have B1 := asd d.below; clear d)
    | (go_at_call 114; refine (round_infinite.calls a true _ HI.out).mono ?_; rintro e w2 ⟨rfl, d⟩; have B2 := asd (below_post d.below B1.out); clear d))
  go_ret
  exact ⟨_, (nanR_nan _ _ _).1, (nanR_nan _ _ _).2, rfl, B2.out.drew⟩
theorem add_fin (fa : Fin64 a) (fb : Fin64 b) (hL : Laid w) :
    Calls Tryz.prog 84 #[.float .f64 a, .float .f64 b, .int .i64 2] w fun e w' => e = .returned (.float .f64 (if flz a + flz b = 0 then (if sgn a = true ∧ sgn b = true then 9223372036854775808 else 0) else rndZ (flz a + flz b) 2)) ∧ Below w.heap.size w w' := by
  have b1 : bl (flz a).natAbs ≤ 2098 := bl_le.2 (flz_lt fa)
  have b2 : bl (flz b).natAbs ≤ 2098 := bl_le.2 (flz_lt fb)
  have b3 := sum_bl fa fb
  have HV := asd (round_yes (m := 2) (by omega))
  have ha : (FloatKind.f64.format.order a a != some .eq) = false := nan_fin fa
  have hb : (FloatKind.f64.format.order b b != some .eq) = false := nan_fin fb
  have IA := asd (inf_fin fa)
  have IB := asd (inf_fin fb)
  have FA := asd fa
  have FB := asd fb
  have HL := asd hL
  have ADD := asd (dadd_law (x := flz a) (y := flz b) (by omega) (by omega))
  have SGN := asd (sign_can (z := flz a + flz b) (by omega))
  have RND := asd (round_can (z := flz a + flz b) (mode := 2) (by omega) (by omega))
  obtain ⟨SG, hSG⟩ : ∃ s, (if flz a + flz b = 0 then (0 : Int) else if flz a + flz b < 0 then -1 else 1) = s := ⟨_, rfl⟩
  rw [hSG] at SGN
  have ZZ := asd (show SG = 0 ↔ flz a + flz b = 0 by
    rw [← hSG]; constructor
    · intro h; split at h
      · assumption
      · split at h <;> omega
    · intro h; rw [if_pos h])
  obtain ⟨⟨n, m, ex⟩, hs⟩ : ∃ r, canN (flz a + flz b) (-1074) = r := ⟨_, rfl⟩
  rw [hs] at ADD SGN RND
  simp only at ADD SGN RND
  have tok1 : True := trivial
  clear fa fb hL b1 b2 b3 hSG hs
  by_cases hz : flz a + flz b = 0
  · rw [if_pos hz]
    obtain ⟨v, hv⟩ : ∃ v, (if sgn a = true ∧ sgn b = true then 9223372036854775808 else 0) = v := ⟨_, rfl⟩
    rw [hv]
    have HVV := asd hv
    clear hv
    have HZ := asd hz
    have s0 : (SG == 0) = true := by rw [ZZ.out.2 hz]; rfl
    clear hz
    go_enter Tryz.func84, Tryz.ntmps84
    go_wp2_with (first
      | (go_at_call 49; refine (round_Valid.calls 2 0 _ HV.out).mono ?_; rintro e w1 ⟨rfl, d⟩; have B1 := asd d.below; clear d)
      | (go_at_call 114; have _t := tok1; refine (round_infinite.calls a _ _ IA.out).mono ?_; rintro e w2 ⟨rfl, d⟩; have B2 := asd (below_post d.below B1.out); have tok2 : True := trivial; clear d _t tok1)
      | (go_at_call 114; refine (round_infinite.calls b _ _ IB.out).mono ?_; rintro e w3 ⟨rfl, d⟩; have B3 := asd (below_post d.below B2.out); clear d)
      | (go_at_call 115; have _t := tok2; refine (rnum_fin a _ FA.out (HL.out.step B3.out)).mono ?_; rintro e w4 ⟨v4, rfl, r4, d⟩; obtain ⟨A4, c4, hv4⟩ := Kd.R_slice r4; subst hv4; have R4 := asd (Kd.R_reads' r4); have B4 := asd (below_post d B3.out); clear d r4 _t tok2)
      | (go_at_call 115; refine (rnum_fin b _ FB.out (HL.out.step B4.out)).mono ?_; rintro e w5 ⟨v5, rfl, r5, d⟩; obtain ⟨A5, c5, hv5⟩ := Kd.R_slice r5; subst hv5; have R5 := asd (Kd.R_reads' r5); have C4 := asd (Kd.C_below R4.out.2.2 d); have B5 := asd (below_post d B4.out); clear d r5)
      | (go_at_call 79; refine (dyad_Add.calls _ A4 c4 _ _ _ A5 c5 _ _ n m ex 0 _ C4.out R4.out.2.1 R5.out.2.2 R5.out.2.1 ADD.out (HL.out.step B5.out)).mono ?_; rintro e w6 ⟨v6, rfl, r6, d⟩; obtain ⟨A6, c6, hv6⟩ := Kd.R_slice r6; subst hv6; have R6 := asd (Kd.R_reads' r6); have B6 := asd (below_post d B5.out); clear d r6)
      | (go_at_call 51; refine (dyad_Sign.calls 1 n A6 c6 m ex SG _ (Kd.C_below R6.out.2.2 (by exact (Below.refl _ _).alloc (Nat.le_refl _) _)) R6.out.2.1 SGN.out).mono ?_; rintro e w7 ⟨rfl, d⟩; have B7 := asd (below_post d (by exact B6.out.alloc B6.out.size _)); clear d)
      | (go_at_call 116; refine (nought_fin a b _ FA.out FB.out HZ.out).mono ?_; rw [HVV.out]; rintro e w8 ⟨rfl, d⟩; have B8 := asd (below_post d B7.out); clear d))
    go_ret
    exact ⟨rfl, B8.out⟩
  · rw [if_neg hz]
    have s0 : (SG == 0) = false := by rw [beq_eq_false_iff_ne]; exact fun h => hz (ZZ.out.1 h)
    clear hz
    go_enter Tryz.func84, Tryz.ntmps84
    go_wp2_with (first
      | (go_at_call 49; refine (round_Valid.calls 2 0 _ HV.out).mono ?_; rintro e w1 ⟨rfl, d⟩; have B1 := asd d.below; clear d)
      | (go_at_call 114; have _t := tok1; refine (round_infinite.calls a _ _ IA.out).mono ?_; rintro e w2 ⟨rfl, d⟩; have B2 := asd (below_post d.below B1.out); have tok2 : True := trivial; clear d _t tok1)
      | (go_at_call 114; refine (round_infinite.calls b _ _ IB.out).mono ?_; rintro e w3 ⟨rfl, d⟩; have B3 := asd (below_post d.below B2.out); clear d)
      | (go_at_call 115; have _t := tok2; refine (rnum_fin a _ FA.out (HL.out.step B3.out)).mono ?_; rintro e w4 ⟨v4, rfl, r4, d⟩; obtain ⟨A4, c4, hv4⟩ := Kd.R_slice r4; subst hv4; have R4 := asd (Kd.R_reads' r4); have B4 := asd (below_post d B3.out); clear d r4 _t tok2)
      | (go_at_call 115; refine (rnum_fin b _ FB.out (HL.out.step B4.out)).mono ?_; rintro e w5 ⟨v5, rfl, r5, d⟩; obtain ⟨A5, c5, hv5⟩ := Kd.R_slice r5; subst hv5; have R5 := asd (Kd.R_reads' r5); have C4 := asd (Kd.C_below R4.out.2.2 d); have B5 := asd (below_post d B4.out); clear d r5)
      | (go_at_call 79; refine (dyad_Add.calls _ A4 c4 _ _ _ A5 c5 _ _ n m ex 0 _ C4.out R4.out.2.1 R5.out.2.2 R5.out.2.1 ADD.out (HL.out.step B5.out)).mono ?_; rintro e w6 ⟨v6, rfl, r6, d⟩; obtain ⟨A6, c6, hv6⟩ := Kd.R_slice r6; subst hv6; have R6 := asd (Kd.R_reads' r6); have N6 := asd (show NumB (w6.alloc (.cells #[.bool n, .slice A6 m.length c6, .int .i64 ex] 60 (0, 0))) w6.heap.size n (.slice A6 m.length c6) ex from blk_new _ _); have B6 := asd (below_post d B5.out); clear d r6)
      | (go_at_call 51; refine (dyad_Sign.calls 1 n A6 c6 m ex SG _ (Kd.C_below R6.out.2.2 (by exact (Below.refl _ _).alloc (Nat.le_refl _) _)) R6.out.2.1 SGN.out).mono ?_; rintro e w7 ⟨rfl, d⟩; have B7 := asd (below_post d (by exact B6.out.alloc B6.out.size _)); have C7 := asd (Kd.C_below (Kd.C_below R6.out.2.2 ((Below.refl _ _).alloc (Nat.le_refl _) _)) d); have N7 := asd (N6.out.below d); have q0 := N7.out.c0; have q1 := N7.out.c1; have q2 := N7.out.c2; clear d)
      | (go_at_call 117; refine (round_to.calls n A6 c6 m ex 2 (rndZ (flz a + flz b) 2) _ C7.out R6.out.2.1 (by unfold round_to.f; rw [RND.out]; rfl)).mono ?_; rintro e w8 ⟨rfl, d⟩; have B8 := asd (below_post d B7.out); clear d))
    go_ret
    exact ⟨rfl, B8.out⟩
theorem near_rel (ha : a < 18446744073709551616) (hb : b < 18446744073709551616) (hL : Laid w) : Calls Tryz.prog 39 #[.float .f64 a, .float .f64 b] w (RetRel (sumT a b) w) := by
  have key : Calls Tryz.prog 84 #[.float .f64 a, .float .f64 b, .int .i64 2] w (RetRel (sumT a b) w) := by
    unfold sumT
    by_cases ho : opp a b
    · rw [if_pos ho]
      exact (add_opp a b w (opp_cases ha hb ho)).mono fun e w' ⟨r, h1, h2, h3, h4⟩ => ⟨r, .inr ⟨h1, by decide +kernel⟩, h2, h3, h4⟩
    · rw [if_neg ho]
      unfold sumV
      by_cases hn : nanB a = true ∨ nanB b = true
      · rw [if_pos hn]
        exact (add_nan a b w hn).mono fun e w' ⟨h3, h4⟩ => ⟨_, .inl rfl, by omega, h3, h4⟩
      · have n1 : nanB a = false := by cases h : nanB a; rfl; exact absurd (.inl h) hn
        have n2 : nanB b = false := by cases h : nanB b; rfl; exact absurd (.inr h) hn
        rw [if_neg hn]
        by_cases hi : infB? a = true ∨ infB? b = true
        · have hv := add_inf ha hb hi n1 n2 ho
          refine (add_infs a b w n1 n2 hi _ hv).mono fun e w' ⟨h3, h4⟩ => ⟨_, .inl ?_, ?_, h3, h4⟩
          · by_cases ia : infB? a = true
            · rw [if_pos ia, if_pos ia]
            · rw [if_neg ia, if_neg ia, if_pos (hi.resolve_left ia)]
          · split <;> assumption
        · have i1 : infB? a = false := by cases h : infB? a; rfl; exact absurd (.inl h) hi
          have i2 : infB? b = false := by cases h : infB? b; rfl; exact absurd (.inr h) hi
          rw [i1, i2, if_neg (by simp), if_neg (by simp)]
          refine (add_fin a b w (fin_kind ha n1 i1) (fin_kind hb n2 i2) hL).mono fun e w' ⟨h3, h4⟩ => ⟨_, .inl rfl, ?_, h3, h4⟩
          split
          · split <;> omega
          · exact rnd_lt _ _
  have K := asd key
  clear key ha hb hL
  go_enter Tryz.func39, Tryz.ntmps39
  go_wp2_with (go_at_call 84; refine (K.out).mono ?_; rintro e w1 ⟨r, n1, n2, rfl, d⟩; have N1 := asd (And.intro n1 (And.intro n2 d)); clear n1 n2 d)
  go_ret
  exact ⟨_, N1.out.1, N1.out.2.1, rfl, N1.out.2.2⟩
end
end Go.Proofs.YthmeocigliephaaGreatDoor.Big
end
section
namespace Go.Proofs.YthmeocigliephaaGreatDoor.Big
open Go.Proofs.YthmeocigliephaaGreatDoor.PSu Go.Proofs.YthmeocigliephaaGreatDoor.Plain
def rowT : List Nat → Nat
  | [] => 0
  | a :: l => l.foldl sumT a
theorem rd_lt {l : List Nat} (hw : ∀ b ∈ l, b < 18446744073709551616) (i : Int) : rdOf (0 : Nat) l i < 18446744073709551616 := by
  unfold rdOf
  by_cases h : i.toNat < l.length
  · rw [List.getD_eq_getElem?_getD, List.getElem?_eq_getElem h]
    exact hw _ (List.getElem_mem h)
  · rw [List.getD_eq_getElem?_getD, List.getElem?_eq_none (by omega)]; simp
theorem relN_self (a : Nat) : relN a a := .inl rfl
theorem row_rel (A : Option Addr) (c : Nat) (l : List Nat) (w : World) (hr : Kd.C Kd.float w A l.length l) (hc : l.length ≤ c) (hn : l.length < 4611686018427387904) (hw : ∀ b ∈ l, b < 18446744073709551616) (hL : Laid w) :
    Calls Tryz.prog 12 #[.slice A l.length c] w (RetRel (rowT l) w) := by
  have HL := asd hL
  have HB := asd (Below.refl w.heap.size w)
  by_cases c2 : (l.length : Int) = 0
  · have c2b0 : ((l.length : Int) == 0) = true := beq_iff_eq.mpr c2
    obtain rfl : l = [] := List.length_eq_zero_iff.1 (by omega)
    clear c2 hL hn hw hr hc
    go_enter Tryz.func12, Tryz.ntmps12
    go_wp2
    go_ret
    exact ⟨0, .inl rfl, by omega, rfl, HB.out⟩
  · have c2b0 : ((l.length : Int) == 0) = false := beq_eq_false_iff_ne.mpr c2
    obtain ⟨T, hT⟩ : ∃ T, rowT l = T := ⟨_, rfl⟩
    rw [hT]
    have HT := asd (show (l.drop (1 + 0)).foldl sumT (rdOf (0 : Nat) l 0) = T by
      cases l with
      | nil => exact absurd rfl c2
      | cons a l => exact hT)
    have HW := asd hw
    have p157 : 0 ≤ (0 : Int) := by omega
    have q157 : 0 < (l.length : Int) := by omega
    obtain ⟨ad157, e157, hx157_0⟩ := Kd.at_float hr 0 p157 q157
    cases e157
    rw [show ((0 : Int)).toNat = 0 from rfl, Addr.add_zero'] at hx157_0
    obtain ⟨i05, hi05, _, hsz5, _⟩ := info_parts info25
    obtain ⟨A5, hcut5, hA5, hC5⟩ := print_drop_of (P := Tryz.prog) (Value.float .f64) (0 : Nat) 22 25 .i64 Tryz.underlying22 hi05 hsz5 (some ad157) c l 1 (by omega) (by omega) hc
    have HR := asd (show Kd.C Kd.float w A5 (l.drop 1).length (l.drop 1) from Kd.C_of_reads (h1 := fun _ => rfl) (hA5 _ (Kd.reads_of_C hr)))
    have HN := asd (show (l.drop 1).length < 4611686018427387904 by rw [List.length_drop]; omega)
    have H1 := asd (show 1 ≤ l.length by omega)
    have q1 : (1 : Int) ≤ (l.length : Int) := by omega
    have qi157 : (0 < l.length) = True := eq_true (by omega)
    replace p157 := eq_true p157
    replace q157 := eq_true q157
    replace q1 := eq_true q1
    clear hA5 hC5 hi05 hsz5 hL hr hc hn hw hT
    go_enter Tryz.func12, Tryz.ntmps12
    go_wp2
    go_loopg [3, 15] (l.drop 1).length (fun kq v3 v15 w' => ∃ (s t i : Nat), v3 = .float .f64 s ∧ v15 = .int .i64 (i : Int) ∧ Aside0 (relN s t ∧ s < 18446744073709551616 ∧ t < 18446744073709551616) ∧ Aside0 ((l.drop (1 + i)).foldl sumT t = T) ∧ Aside0 (kq + i = (l.drop 1).length) ∧ Aside0 (Below w.heap.size w w'))
    case atStart => exact ⟨rdOf (0 : Nat) l 0, rdOf (0 : Nat) l 0, 0, rfl, rfl, ⟨.inl rfl, rd_lt HW.out 0, rd_lt HW.out 0⟩, HT, ⟨by omega⟩, HB⟩
    case round =>
      clear HT HB p157 q157 q1 hx157_0 qi157 c2 c2b0
      obtain ⟨s, t, i, rfl, rfl, HS, HT, HK, HB⟩ := hrel
      have hi0 : (0 : Int) ≤ (i : Int) := by omega
      have hdl : (l.drop 1).length = l.length - 1 := List.length_drop
      cases gk with
      | zero =>
        have c1 : decide ((i : Int) < ((l.length - 1 : Nat) : Int)) = false := by have := HK.out; simp; omega
        have c1' : decide ((i : Int) < ((l.drop 1).length : Int)) = false := by have := HK.out; simp; omega
        have c1n : decide (i < l.length - 1) = false := by have := HK.out; simp; omega
        have hT := HT.out
        rw [List.drop_eq_nil_of_le (by have := HK.out; omega)] at hT
        obtain rfl : t = T := hT
        clear hdl
        go_wp2
        go_ret
        exact ⟨s, HS.out.1, HS.out.2.1, rfl, HB.out⟩
      | succ k1 =>
        have hi : i < (l.drop 1).length := by have := HK.out; omega
        have p1 : 0 ≤ (i : Int) := hi0
        have q1 : (i : Int) < ((l.drop 1).length : Int) := by omega
        have c1 : decide ((i : Int) < ((l.length - 1 : Nat) : Int)) = true := by simp; omega
        have c1' : decide ((i : Int) < ((l.drop 1).length : Int)) = true := by simp; omega
        have c1n : decide (i < l.length - 1) = true := by simp; omega
        obtain ⟨ad, e159, hx⟩ := Kd.at_float HR.out (i : Int) p1 q1
        cases e159
        replace hx := (HB.out.cell (World.block_lt_of_cell? w _ hx)).trans hx
        rw [Int.toNat_natCast] at hx
        have hT := HT.out
        have hd : l.drop (1 + i) = rdOf (0 : Nat) (l.drop 1) (i : Int) :: l.drop (1 + (i + 1)) := by
          rw [← List.drop_drop, drop_rd _ i hi, List.drop_drop]
        rw [hd, List.foldl_cons] at hT
        have HX := asd (rd_lt (fun b hb => HW.out b (List.mem_of_mem_drop hb)) (i : Int) : rdOf (0 : Nat) (l.drop 1) (i : Int) < 18446744073709551616)
        obtain ⟨x, hx0⟩ : ∃ x, rdOf (0 : Nat) (l.drop 1) (i : Int) = x := ⟨_, rfl⟩
        rw [hx0] at hx hT HX
        have HT2 := asd hT
        have HI := asd hi
        have q1x : ((i : Int) < ((l.length - 1 : Nat) : Int)) = True := eq_true (by omega)
        replace p1 := eq_true p1
        replace q1 := eq_true q1
        clear hT hd hx0 hdl hi HT
        go_wp2_with (go_at_call 39; refine (near_rel s x _ HS.out.2.1 HX.out (HL.out.step HB.out)).mono ?_; rintro e w1 ⟨r, n1, n2, rfl, d⟩; have N1 := asd (And.intro n1 n2); have HB2 := asd (below_post d HB.out); clear n1 n2 d)
        go_roundg k1
        case measure => omega
        case rel => exact ⟨r, sumT t x, i + 1, rfl, by congr 1; have := HI.out; have := HN.out; exact (w64_of (by omega) (by omega)).trans (by omega), ⟨relN_trans N1.out.1 (relN_sum HS.out.2.1 HX.out HS.out.2.2 HX.out HS.out.1 (relN_self x)), N1.out.2, sumT_lt HS.out.2.2 HX.out⟩, HT2, ⟨by have := HK.out; omega⟩, HB2⟩
end Go.Proofs.YthmeocigliephaaGreatDoor.Big
end
section
namespace Go.Proofs.YthmeocigliephaaGreatDoor.Big
open Go.Proofs.YthmeocigliephaaGreatDoor.PSu Go.Proofs.YthmeocigliephaaGreatDoor.Plain Ieee
attribute [local go_sem] neg_float
def absN (b : Nat) : Nat := (Go.bits .andNot .u64 ((b : Nat) : Int) 9223372036854775808 : Int).toNat
theorem abs_some (b : Nat) : math_Abs.f b = some (absN b) := rfl
def geN (a b : Nat) : Bool := (FloatKind.f64.format.order (absN a) (absN b)) == some .gt || (FloatKind.f64.format.order (absN a) (absN b)) == some .eq
def negN (b : Nat) : Nat := Op.negFloat .f64 b
theorem negN_law {b : Nat} (hb : b < 18446744073709551616) : negN b < 18446744073709551616 ∧ negN b % 9223372036854775808 = b % 9223372036854775808 := by
  have h : negN b = b ^^^ 2 ^ 63 := rfl
  rw [h]
  refine ⟨Nat.xor_lt_two_pow (n := 64) hb (by decide), ?_⟩
  have : (b ^^^ 2 ^ 63) % 2 ^ 63 = b % 2 ^ 63 := by
    rw [Nat.xor_mod_two_pow, Nat.mod_self, Nat.xor_zero]
  exact this
theorem negN_lt {b : Nat} (hb : b < 18446744073709551616) : negN b < 18446744073709551616 := (negN_law hb).1
theorem negN_nan {b : Nat} (hb : b < 18446744073709551616) : nanB (negN b) = nanB b := by
  rw [nan_law (negN_lt hb), nan_law hb, (negN_law hb).2]
theorem relN_neg {a b : Nat} (ha : a < 18446744073709551616) (hb : b < 18446744073709551616) (h : relN a b) : relN (negN a) (negN b) := by
  rcases h with rfl | ⟨h1, h2⟩
  · exact .inl rfl
  · exact .inr ⟨by rw [negN_nan ha, h1], by rw [negN_nan hb, h2]⟩
theorem absN_law {b : Nat} (hb : b < 18446744073709551616) : absN b = b % 9223372036854775808 := by
  unfold absN
  rw [bits_abs b hb, Int.toNat_natCast]
theorem geN_nan {a : Nat} (ha : a < 18446744073709551616) (b : Nat) (h : nanB a = true) : geN a b = false := by
  rw [nan_law ha, decide_eq_true_eq] at h
  have : FloatKind.f64.format.order (absN a) (absN b) = none := by
    show double.order _ _ = _
    rw [absN_law ha]
    obtain ⟨s, f, hr⟩ := read_nan (b := a % 9223372036854775808) (by omega)
    unfold Format.order
    rw [hr]; rfl
  unfold geN
  rw [this]; rfl
theorem relN_ge {a b : Nat} (ha : a < 18446744073709551616) (hb : b < 18446744073709551616) (x : Nat) (h : relN a b) : geN a x = geN b x := by
  rcases h with rfl | ⟨h1, h2⟩
  · rfl
  · rw [geN_nan ha x h1, geN_nan hb x h2]
def lossT (s x t : Nat) : Nat := if geN s x = true then sumT (sumT s (negN t)) x else sumT (sumT x (negN t)) s
def keptT : List Nat → Nat → Nat → Nat
  | [], s, c => sumT s c
  | x :: l, s, c => keptT l (sumT s x) (sumT c (lossT s x (sumT s x)))
theorem lossT_lt {s x t : Nat} (hs : s < 18446744073709551616) (hx : x < 18446744073709551616) (ht : t < 18446744073709551616) : lossT s x t < 18446744073709551616 := by
  unfold lossT
  split
  · exact sumT_lt (sumT_lt hs (negN_lt ht)) hx
  · exact sumT_lt (sumT_lt hx (negN_lt ht)) hs
theorem kept_rel (A : Option Addr) (c : Nat) (l : List Nat) (w : World) (hr : Kd.C Kd.float w A l.length l) (hc : l.length ≤ c) (hn : l.length < 4611686018427387904) (hw : ∀ b ∈ l, b < 18446744073709551616) (hL : Laid w) :
    Calls Tryz.prog 16 #[.slice A l.length c] w (RetRel (keptT l 0 0) w) := by
  have HL := asd hL
  have HB := asd (Below.refl w.heap.size w)
  have HW := asd hw
  have HR := asd hr
  have HN := asd hn
  obtain ⟨T, hT⟩ : ∃ T, keptT l 0 0 = T := ⟨_, rfl⟩
  rw [hT]
  have HT := asd (show keptT (l.drop 0) 0 0 = T from hT)
  clear hL hr hc hn hw hT
  go_enter Tryz.func16, Tryz.ntmps16
  go_wp2
  go_loopg [3, 4, 10] l.length (fun kq v3 v4 v10 w' => ∃ (s s' c c' i : Nat), v3 = .float .f64 s ∧ v4 = .float .f64 c ∧ v10 = .int .i64 (i : Int) ∧ Aside0 (relN s s' ∧ s < 18446744073709551616 ∧ s' < 18446744073709551616) ∧ Aside0 (relN c c' ∧ c < 18446744073709551616 ∧ c' < 18446744073709551616) ∧ Aside0 (keptT (l.drop i) s' c' = T) ∧ Aside0 (kq + i = l.length) ∧ Aside0 (Below w.heap.size w w'))
  case atStart => exact ⟨0, 0, 0, 0, 0, rfl, rfl, rfl, ⟨.inl rfl, by omega, by omega⟩, ⟨.inl rfl, by omega, by omega⟩, HT, ⟨by omega⟩, HB⟩
  case round =>
    clear HT HB
    obtain ⟨s, s', c, c', i, rfl, rfl, rfl, HS, HC, HT, HK, HB⟩ := hrel
    have hi0 : (0 : Int) ≤ (i : Int) := by omega
    cases gk with
    | zero =>
      have c1 : decide ((i : Int) < (l.length : Int)) = false := by have := HK.out; simp; omega
      have c1n : decide (i < l.length) = false := by have := HK.out; simp; omega
      have hT := HT.out
      rw [List.drop_eq_nil_of_le (by have := HK.out; omega)] at hT
      have HT2 := asd (show sumT s' c' = T from hT)
      clear hT HT
      go_wp2_with (go_at_call 39; refine (near_rel s c _ HS.out.2.1 HC.out.2.1 (HL.out.step HB.out)).mono ?_; rintro e w1 ⟨r, n1, n2, rfl, d⟩; have N1 := asd (And.intro n1 n2); have HB2 := asd (below_post d HB.out); clear n1 n2 d)
      go_ret
      exact ⟨r, by rw [← HT2.out]; exact relN_trans N1.out.1 (relN_sum HS.out.2.1 HC.out.2.1 HS.out.2.2 HC.out.2.2 HS.out.1 HC.out.1), N1.out.2, rfl, HB2.out⟩
    | succ k1 =>
      have hi : i < l.length := by have := HK.out; omega
      have p1 : 0 ≤ (i : Int) := hi0
      have q1 : (i : Int) < (l.length : Int) := by omega
      have c1 : decide ((i : Int) < (l.length : Int)) = true := by simp; omega
      have c1n : decide (i < l.length) = true := by simp; omega
      obtain ⟨ad, e159, hx⟩ := Kd.at_float HR.out (i : Int) p1 q1
      cases e159
      replace hx := (HB.out.cell (World.block_lt_of_cell? w _ hx)).trans hx
      rw [Int.toNat_natCast] at hx
      have hT := HT.out
      rw [drop_rd _ i hi] at hT
      have HX := asd (rd_lt HW.out (i : Int))
      obtain ⟨x, hx0⟩ : ∃ x, rdOf (0 : Nat) l (i : Int) = x := ⟨_, rfl⟩
      rw [hx0] at hx hT HX
      have HT2 := asd (show keptT (l.drop (i + 1)) (sumT s' x) (sumT c' (lossT s' x (sumT s' x))) = T from hT)
      have HI := asd hi
      replace p1 := eq_true p1
      replace q1 := eq_true q1
      have A1 := asd (abs_some s)
      have A2 := asd (abs_some x)
      have tok1 : True := trivial
      clear hT hx0 hi HT
      have hg := relN_ge HS.out.2.1 HS.out.2.2 x HS.out.1
      have G := asd hg
      clear hg
      rcases hq : geN s x with _ | _
      · have hge : ((FloatKind.f64.format.order (absN s) (absN x)) == some .gt || (FloatKind.f64.format.order (absN s) (absN x)) == some .eq) = false := hq
        have G2 := asd (G.out.symm.trans hq)
        clear hq
        go_wp2_with (first
          | (go_at_call 39; have _t := tok1; refine (near_rel s x _ HS.out.2.1 HX.out (HL.out.step HB.out)).mono ?_; rintro e w1 ⟨t, n1, n2, rfl, d⟩; have N1 := asd (And.intro n1 n2); have HB2 := asd (below_post d HB.out); have tok2 : True := trivial; clear n1 n2 d _t tok1)
          | (go_at_call 41; have _t := tok2; refine (math_Abs.calls s _ _ A1.out).mono ?_; rintro e w2 ⟨rfl, d⟩; have HB3 := asd (below_post d.below HB2.out); clear d _t tok2)
          | (go_at_call 41; refine (math_Abs.calls x _ _ A2.out).mono ?_; rintro e w3 ⟨rfl, d⟩; have HB4 := asd (below_post d.below HB3.out); have tok3 : True := trivial; clear d)
          | (go_at_call 39; have _t := tok3; refine (near_rel x (negN t) _ HX.out (negN_lt N1.out.2) (HL.out.step HB4.out)).mono ?_; rintro e w4 ⟨u, n1, n2, rfl, d⟩; have N2 := asd (And.intro n1 n2); have HB5 := asd (below_post d HB4.out); have tok4 : True := trivial; clear n1 n2 d _t tok3)
          | (go_at_call 39; have _t := tok4; refine (near_rel u s _ N2.out.2 HS.out.2.1 (HL.out.step HB5.out)).mono ?_; rintro e w5 ⟨v, n1, n2, rfl, d⟩; have N3 := asd (And.intro n1 n2); have HB6 := asd (below_post d HB5.out); clear n1 n2 d _t tok4)
          | (go_at_call 39; refine (near_rel c v _ HC.out.2.1 N3.out.2 (HL.out.step HB6.out)).mono ?_; rintro e w6 ⟨y, n1, n2, rfl, d⟩; have N4 := asd (And.intro n1 n2); have HB7 := asd (below_post d HB6.out); clear n1 n2 d))
        go_roundg k1
        case measure => omega
        case rel =>
          have t1 : relN t (sumT s' x) := relN_trans N1.out.1 (relN_sum HS.out.2.1 HX.out HS.out.2.2 HX.out HS.out.1 (relN_self x))
          have l1 := sumT_lt HS.out.2.2 HX.out
          have t2 : relN u (sumT x (negN (sumT s' x))) := relN_trans N2.out.1 (relN_sum HX.out (negN_lt N1.out.2) HX.out (negN_lt l1) (relN_self x) (relN_neg N1.out.2 l1 t1))
          have l2 := sumT_lt HX.out (negN_lt l1)
          have t3 : relN v (lossT s' x (sumT s' x)) := by
            unfold lossT
            rw [if_neg (by rw [G2.out]; simp)]
            exact relN_trans N3.out.1 (relN_sum N2.out.2 HS.out.2.1 l2 HS.out.2.2 t2 HS.out.1)
          have l3 := lossT_lt HS.out.2.2 HX.out l1
          exact ⟨t, sumT s' x, y, _, i + 1, rfl, rfl, by congr 1; have := HI.out; have := HN.out; exact (w64_of (by omega) (by omega)).trans (by omega), ⟨t1, N1.out.2, l1⟩, ⟨relN_trans N4.out.1 (relN_sum HC.out.2.1 N3.out.2 HC.out.2.2 l3 HC.out.1 t3), N4.out.2, sumT_lt HC.out.2.2 l3⟩, HT2, ⟨by have := HK.out; omega⟩, HB7⟩
      · have hge : ((FloatKind.f64.format.order (absN s) (absN x)) == some .gt || (FloatKind.f64.format.order (absN s) (absN x)) == some .eq) = true := hq
        have G2 := asd (G.out.symm.trans hq)
        clear hq
        go_wp2_with (first
          | (go_at_call 39; have _t := tok1; refine (near_rel s x _ HS.out.2.1 HX.out (HL.out.step HB.out)).mono ?_; rintro e w1 ⟨t, n1, n2, rfl, d⟩; have N1 := asd (And.intro n1 n2); have HB2 := asd (below_post d HB.out); have tok2 : True := trivial; clear n1 n2 d _t tok1)
          | (go_at_call 41; have _t := tok2; refine (math_Abs.calls s _ _ A1.out).mono ?_; rintro e w2 ⟨rfl, d⟩; have HB3 := asd (below_post d.below HB2.out); clear d _t tok2)
          | (go_at_call 41; refine (math_Abs.calls x _ _ A2.out).mono ?_; rintro e w3 ⟨rfl, d⟩; have HB4 := asd (below_post d.below HB3.out); have tok3 : True := trivial; clear d)
          | (go_at_call 39; have _t := tok3; refine (near_rel s (negN t) _ HS.out.2.1 (negN_lt N1.out.2) (HL.out.step HB4.out)).mono ?_; rintro e w4 ⟨u, n1, n2, rfl, d⟩; have N2 := asd (And.intro n1 n2); have HB5 := asd (below_post d HB4.out); have tok4 : True := trivial; clear n1 n2 d _t tok3)
          | (go_at_call 39; have _t := tok4; refine (near_rel u x _ N2.out.2 HX.out (HL.out.step HB5.out)).mono ?_; rintro e w5 ⟨v, n1, n2, rfl, d⟩; have N3 := asd (And.intro n1 n2); have HB6 := asd (below_post d HB5.out); clear n1 n2 d _t tok4)
          | (go_at_call 39; refine (near_rel c v _ HC.out.2.1 N3.out.2 (HL.out.step HB6.out)).mono ?_; rintro e w6 ⟨y, n1, n2, rfl, d⟩; have N4 := asd (And.intro n1 n2); have HB7 := asd (below_post d HB6.out); clear n1 n2 d))
        go_roundg k1
        case measure => omega
        case rel =>
          have t1 : relN t (sumT s' x) := relN_trans N1.out.1 (relN_sum HS.out.2.1 HX.out HS.out.2.2 HX.out HS.out.1 (relN_self x))
          have l1 := sumT_lt HS.out.2.2 HX.out
          have t2 : relN u (sumT s' (negN (sumT s' x))) := relN_trans N2.out.1 (relN_sum HS.out.2.1 (negN_lt N1.out.2) HS.out.2.2 (negN_lt l1) HS.out.1 (relN_neg N1.out.2 l1 t1))
          have l2 := sumT_lt HS.out.2.2 (negN_lt l1)
          have t3 : relN v (lossT s' x (sumT s' x)) := by
            unfold lossT
            rw [if_pos G2.out]
            exact relN_trans N3.out.1 (relN_sum N2.out.2 HX.out l2 HX.out t2 (relN_self x))
          have l3 := lossT_lt HS.out.2.2 HX.out l1
          exact ⟨t, sumT s' x, y, _, i + 1, rfl, rfl, by congr 1; have := HI.out; have := HN.out; exact (w64_of (by omega) (by omega)).trans (by omega), ⟨t1, N1.out.2, l1⟩, ⟨relN_trans N4.out.1 (relN_sum HC.out.2.1 N3.out.2 HC.out.2.2 l3 HC.out.1 t3), N4.out.2, sumT_lt HC.out.2.2 l3⟩, HT2, ⟨by have := HK.out; omega⟩, HB7⟩
end Go.Proofs.YthmeocigliephaaGreatDoor.Big
end
section
namespace Go.Proofs.YthmeocigliephaaGreatDoor.Big
open Go.Proofs.YthmeocigliephaaGreatDoor.PSu Go.Proofs.YthmeocigliephaaGreatDoor.Plain Ieee
theorem sumT_fin {a b : Nat} (ha : a < 18446744073709551616) (hb : b < 18446744073709551616) (h : Fin64 (sumT a b)) : Fin64 a ∧ Fin64 b ∧ sumT a b = sumV a b := by
  obtain ⟨h1, h2⟩ := kind_fin h
  unfold sumT at h1 h2 ⊢
  by_cases ho : opp a b
  · rw [if_pos ho] at h1; exact absurd h1 (by decide +kernel)
  · rw [if_neg ho] at h1 h2 ⊢
    unfold sumV at h1 h2
    by_cases hn : nanB a = true ∨ nanB b = true
    · rw [if_pos hn] at h1; exact absurd h1 (by decide +kernel)
    · have n1 : nanB a = false := by cases h : nanB a; rfl; exact absurd (.inl h) hn
      have n2 : nanB b = false := by cases h : nanB b; rfl; exact absurd (.inr h) hn
      rw [if_neg hn] at h2
      by_cases ia : infB? a = true
      · rw [if_pos ia, ia] at h2; cases h2
      · rw [if_neg ia] at h2
        by_cases ib : infB? b = true
        · rw [if_pos ib, ib] at h2; cases h2
        · exact ⟨fin_kind ha n1 (by simpa using ia), fin_kind hb n2 (by simpa using ib), rfl⟩
def lostT (a b : Nat) : Nat := if Fin64 (sumT a b) then rndZ (flz a + flz b - flz (sumT a b)) 2 else 0
theorem isinf_some (b : Nat) : math_IsInf.f b 0 = some (infB? b) := inf_some b
theorem two_rest {a b r : Nat} (ha : a < 18446744073709551616) (hb : b < 18446744073709551616) (h : relN r (sumT a b)) (hr : r < 18446744073709551616) :
    (if ((FloatKind.f64.format.order r r) != some .eq) = true then (sums_Two.j0 4 a b r true) else ((math_IsInf.f r 0).bind fun t231 => (sums_Two.j0 4 a b r t231))) = some (r, lostT a b) := by
  unfold lostT
  by_cases hf : Fin64 (sumT a b)
  · obtain ⟨fa, fb, hs⟩ := sumT_fin ha hb hf
    obtain rfl := relN_eq h (kind_fin hf).1
    rw [if_pos hf]
    have h1 := sum_bl fa fb
    have h2 : bl (flz (sumT a b)).natAbs ≤ 2098 := bl_le.2 (flz_lt hf)
    have ht := total_law [a, b] (fun x hx => by simp at hx; rcases hx with rfl | rfl <;> assumption) (by simp)
    have hz : sumZ [a, b] = flz a + flz b := by simp [sumZ]
    have hd : bl (flz a + flz b - flz (sumT a b)).natAbs ≤ 60000 := by
      have h3 := Int.natAbs_sub_le (flz a + flz b) (flz (sumT a b))
      have h4 := bl_add (k := 2100) h1 (by omega : bl (flz (sumT a b)).natAbs ≤ 2100)
      have := bl_le.2 (Nat.lt_of_le_of_lt h3 (bl_le.1 h4))
      omega
    rw [if_neg (by rw [nan_fin hf]; simp), isinf_some, (kind_fin hf).2, Option.bind_some, sums_Two.j0, if_neg (by simp), show (3 : Nat) = [a, b].length + 1 from rfl, ht, Option.bind_some, num_law hf, Option.bind_some, hz]
    rw [show [a, b].length + 1 = 0 + 3 from rfl, dsub_law 0 (by omega) (by omega), Option.bind_some]
    simp only
    rw [round_can hd (by omega)]
    rfl
  · rw [if_neg hf]
    by_cases hn : nanB r = true
    · refine (if_pos hn).trans ?_
      rw [sums_Two.j0, if_pos rfl]
    · refine (if_neg hn).trans ?_
      have he : r = sumT a b := by
        rcases h with h | ⟨h, _⟩
        · exact h
        · exact absurd h hn
      have hi : infB? r = true := by
        cases h : infB? r
        · exact absurd (he ▸ fin_kind hr (by simpa using hn) h) hf
        · rfl
      rw [isinf_some, hi, Option.bind_some, sums_Two.j0, if_pos rfl]
theorem two_rel (a0 a1 : Nat) (w : World) (ha : a0 < 18446744073709551616) (hb : a1 < 18446744073709551616) (hL : Laid w) :
    Calls Tryz.prog 20 #[.float .f64 a0, .float .f64 a1] w fun e w' => ∃ r, relN r (sumT a0 a1) ∧ r < 18446744073709551616 ∧ e = .returned (.tuple #[.float .f64 r, .float .f64 (lostT a0 a1)]) ∧ Below w.heap.size w w' := by
  have HL := asd hL
  obtain ⟨k, hk⟩ : ∃ k : Nat, k = 4 := ⟨_, rfl⟩
  have HC4 := asd (fun r h1 h2 => two_rest (r := r) ha hb h1 h2)
  rw [← hk] at HC4
  obtain ⟨L, hLL⟩ : ∃ L, lostT a0 a1 = L := ⟨_, rfl⟩
  rw [hLL] at HC4 ⊢
  have HA := asd ha
  have HA1 := asd hb
  clear hL hk hLL ha hb
  have hu60 := Tryz.underlying60
  have HB := asd (Below.refl w.heap.size w)
  go_enter Tryz.func20, Tryz.ntmps20
  go_upto_region 2 with (first | ((with_reducible refine gate_callee (f := 39) rfl ?_); refine goesL_ (some 13) rfl rfl Tryz.func39 (by kernel_rfl) rfl #[.float .f64 a0, .float .f64 a1] rfl eqA ?_; refine (near_rel a0 a1 _ HA.out HA1.out HL.out).mono ?_; rintro e w5 ⟨t230, n1, n2, rfl, hb⟩; refine ⟨_, rfl, ?_⟩; have N1 := asd (And.intro n1 n2); have HC5 := asd (HC4.out t230 n1 n2); clear n1 n2; replace HB := asd (below_step hbw hb); (try clear hb)))
  (try simp only [Act.put, List.setIfInBounds_toArray, List.set_cons_zero, List.set_cons_succ])
  go_cut [20] (fun v20 wc => ∃ (kq : Nat) (x20_3 : Bool), v20 = .bool x20_3 ∧ Aside0 (sums_Two.j0 kq a0 a1 t230 x20_3 = some (t230, L)) ∧ Aside0 (kq ≤ k) ∧ Aside0 (Below w.heap.size w wc))
  case first =>
    have H := HC5.out
    clear HC4 HC5
    by_cases c6 : ((FloatKind.f64.format.order t230 t230) != some .eq) = true
    · rw [if_pos c6] at H
      have c6b0 : ((FloatKind.f64.format.order t230 t230) != some .eq) = true := c6
      (try (have c6b1 : decide ((FloatKind.f64.format.order t230 t230) = some .eq) = false := by simpa using c6))
      (try (have c6b2 : ((FloatKind.f64.format.order t230 t230) == some .eq) = false := by simpa using c6))
      (try (have c6b3 : ¬ ((FloatKind.f64.format.order t230 t230) = some .eq) := by simpa using c6))
      clear c6
      (first | rw [c6b0] | (simp only [i64_w, i32_w]; rw [c6b0]) | skip)
      have H' := asd H
      clear H
      go_wp2
      go_meet
      case rel => exact ⟨_, (true), eqB, H', ⟨by first | omega | exact Nat.le_refl _⟩, ⟨hbw⟩⟩
    · rw [if_neg c6] at H
      have c6b0 : ((FloatKind.f64.format.order t230 t230) != some .eq) = false := by simpa using c6
      (try (have c6b1 : decide ((FloatKind.f64.format.order t230 t230) = some .eq) = true := by simpa using c6))
      (try (have c6b2 : ((FloatKind.f64.format.order t230 t230) == some .eq) = true := by simpa using c6))
      clear c6
      (first | rw [c6b0] | (simp only [i64_w, i32_w]; rw [c6b0]) | skip)
      replace H := Option.bind_eq_some_iff.mp H
      obtain ⟨t231, A70, H⟩ := H
      replace H : (sums_Two.j0 k a0 a1 t230 t231) = some (t230, L) := H
      have A7 := asd A70
      clear A70
      have H' := asd H
      clear H
      go_wp2_with (first | (go_at_call 43; (with_reducible refine (math_IsInf.calls t230 0 t231 _ A7.out).mono ?_); rintro e w' ⟨rfl, ⟨nd, rfl⟩⟩))
      go_meet
      case rel => exact ⟨_, (t231), eqB, H', ⟨by first | omega | exact Nat.le_refl _⟩, ⟨hbw⟩⟩
  case rest =>
    clear HC4 HC5 HA HA1
    try clear c2
    try clear p2
    try clear c3
    try clear c6
    try clear c6b0
    try clear c6b1
    try clear c6b2
    obtain ⟨kq, x20_3, rfl, HA, HJ3, HB⟩ := hcut
    cases kq with
    | zero => exact absurd HA.out (by simp [sums_Two.j0])
    | succ kj3 =>
      have H := HA.out
      clear HA
      simp only [sums_Two.j0] at H
      by_cases c8 : x20_3 = true
      · subst c8
        have H1 : (some (t230, (0 : Nat))) = some (t230, L) := by rw [if_pos rfl] at H; exact H
        clear H
        have H := H1
        clear H1
        simp only [Option.some.injEq, Prod.mk.injEq, true_and] at H
        subst H
        go_wp2
        go_ret2
        exact ⟨_, N1.out.1, N1.out.2, eqC, hbw⟩
      · replace c8 := Bool.eq_false_iff.mpr c8
        subst c8
        have H1 : ((sums_total.f kj3 (([a0, a1] : List Nat))).bind fun bt235 => ((sums_num.f t230).bind fun bt240 => ((dyad_Sub.f kj3 bt235.1 bt235.2.1 bt235.2.2 bt240.1 bt240.2.1 bt240.2.2).bind fun bt245 => ((dyad_Round.f bt245.1 bt245.2.1 bt245.2.2.1 2).bind fun bt252 => (some (t230, bt252.1)))))) = some (t230, L) := by rw [if_neg (show ¬ (false = true) by decide)] at H; exact H
        clear H
        have H := H1
        clear H1
        obtain ⟨y232, hy232⟩ : ∃ y_ : List Nat, y_ = (([a0, a1] : List Nat)) := ⟨_, rfl⟩
        replace H : ((sums_total.f kj3 y232).bind fun bt235 => ((sums_num.f t230).bind fun bt240 => ((dyad_Sub.f kj3 bt235.1 bt235.2.1 bt235.2.2 bt240.1 bt240.2.1 bt240.2.2).bind fun bt245 => ((dyad_Round.f bt245.1 bt245.2.1 bt245.2.2.1 2).bind fun bt252 => (some (t230, bt252.1)))))) = some (t230, L) := by first | (rw [hy232]; with_reducible exact H) | (have H2_ := (Option.bind_some _ _).symm.trans H; rw [hy232]; with_reducible exact H2_) | (have H2_ := (Option.bind_some _ _).symm.trans H; with_reducible exact H2_) | with_reducible exact H | (rw [hy232]; exact H) | exact H
        have Ny232 := asd hy232
        clear hy232
        replace H := Option.bind_eq_some_iff.mp H
        obtain ⟨⟨t235, t236, t239⟩, A90, H⟩ := H
        replace H : ((sums_num.f t230).bind fun bt240 => ((dyad_Sub.f kj3 t235 t236 t239 bt240.1 bt240.2.1 bt240.2.2).bind fun bt245 => ((dyad_Round.f bt245.1 bt245.2.1 bt245.2.2.1 2).bind fun bt252 => (some (t230, bt252.1))))) = some (t230, L) := H
        have A9 := asd A90
        clear A90
        replace H := Option.bind_eq_some_iff.mp H
        obtain ⟨⟨t240, t241, t244⟩, A100, H⟩ := H
        replace H : ((dyad_Sub.f kj3 t235 t236 t239 t240 t241 t244).bind fun bt245 => ((dyad_Round.f bt245.1 bt245.2.1 bt245.2.2.1 2).bind fun bt252 => (some (t230, bt252.1)))) = some (t230, L) := H
        have A10 := asd A100
        clear A100
        replace H := Option.bind_eq_some_iff.mp H
        obtain ⟨⟨t245, t246, t249, t250⟩, A110, H⟩ := H
        replace H : ((dyad_Round.f t245 t246 t249 2).bind fun bt252 => (some (t230, bt252.1))) = some (t230, L) := H
        have A11 := asd A110
        clear A110
        replace H := Option.bind_eq_some_iff.mp H
        obtain ⟨⟨t252, t253⟩, A120, H⟩ := H
        replace H : (some (t230, t252)) = some (t230, L) := H
        have A12 := asd A120
        clear A120
        simp only [Option.some.injEq, Prod.mk.injEq, true_and] at H
        subst H
        go_wp2_with (first | ((with_reducible refine gate_dst (N := 25) rfl ?_); refine Kd.R_lit Kd.float _ 25 ?hg (N := 25) ?hd (xs := ([a0, a1] : List Nat)) (inner := [.float .f64 a0, .float .f64 a1]) (ok := fun _ => True) (okp := fun _ => True) ?hr ?hp (fun _ hk => hk) trivial (Below.refl _ _) (Nat.le_refl _) (by simp) ?_; (case hd => rfl); (case hg => rfl); (case hr => first | (go_simp; done) | (go_simp; rfl)); (case hp => exact (Reps.one (show Kd.M Kd.float _ _ _ a0 [.float .f64 a0] from rfl) (Reps.one (show Kd.M Kd.float _ _ _ a1 [.float .f64 a1] from rfl) (Reps.none _ _)))); intro v233 w13 ho14 hb hg_ hnew_; clear hg_ hnew_; (first | rw [← Ny232.out] at ho14 | (simp only [Int.reduceToNat] at ho14; rw [← Ny232.out] at ho14)); have n0_ := asd (Kd.R_lower ho14 (below_size hbw)); have n1_ := asd (below_step hbw hb); clear HB; have HO234 := n0_; have HB := n1_; clear n0_ n1_; clear hb ho14; obtain ⟨Ao15, co15, eo15⟩ := Kd.R_slice HO234.out; subst eo15) | ((with_reducible refine gate_callee (f := 45) rfl ?_); refine goesL_ (some 26) rfl rfl Tryz.func45 (by kernel_rfl) rfl #[.slice Ao15 y232.length co15] rfl eqA ?_; (with_reducible refine (sums_total.calls kj3 _ _ y232 t235 t236 t239 _ ?side1 ?side2 A9.out).mono ?_); (case side1 => repeat (first | exact (Kd.R_reads' HO234.out).2.2 | (with_reducible refine Kd.C_alloc ?_ _) | (with_reducible refine Kd.C_drewN ?_ _) | (with_reducible refine Kd.C_drew ?_))); (case side2 => exact (Kd.R_reads' HO234.out).2.1); rintro e w16 ⟨v237, rfl, ho0, hb⟩; refine ⟨_, rfl, ?_⟩; have n0_ := asd (Kd.R_below (rUp HO234.out) hb); have n1_ := asd (Kd.R_lower ho0 (below_size hbw)); have n2_ := asd (below_step hbw hb); clear HO234; clear HB; have HO234 := n0_; have HO238 := n1_; have HB := n2_; clear n0_ n1_ n2_; (try clear hb); (try clear ho0)) | ((with_reducible refine gate_callee (f := 46) rfl ?_); refine goesL_ (some 28) rfl rfl Tryz.func46 (by kernel_rfl) rfl #[.float .f64 t230] rfl eqA ?_; (with_reducible refine (sums_num.calls t230 t240 t241 t244 _ A10.out).mono ?_); rintro e w17 ⟨v242, rfl, ho0, hb⟩; refine ⟨_, rfl, ?_⟩; have n0_ := asd (Kd.R_below (rUp HO234.out) hb); have n1_ := asd (Kd.R_elder' (rUp HO238.out) (Kd.R_base ho0) hb); have n2_ := asd (Kd.R_lower (Kd.R_new' ho0 (Kd.R_lt (rUp HO238.out))) (below_size hbw)); have n3_ := asd (below_step hbw hb); clear HO234; clear HO238; clear HB; have HO234 := n0_; have HO238 := n1_; have HO243 := n2_; have HB := n3_; clear n0_ n1_ n2_ n3_; (try clear hb); (try clear ho0); obtain ⟨Ao18, co18, eo18⟩ := Kd.R_slice HO238.out; subst eo18; obtain ⟨Ao19, co19, eo19⟩ := Kd.R_slice HO243.out; subst eo19) | ((with_reducible refine gate_callee (f := 44) rfl ?_); refine goesL_ (some 29) rfl rfl Tryz.func44 (by kernel_rfl) rfl #[.agg #[.bool t235, .slice Ao18 t236.length co18, .int .i64 t239], .agg #[.bool t240, .slice Ao19 t241.length co19, .int .i64 t244]] rfl eqA ?_; (with_reducible refine (dyad_Sub.calls kj3 t235 (fun k_ => some k_ = (.slice Ao18 t236.length co18 : Value).ownBlock) _ _ t236 t239 t240 (fun k_ => some k_ = (.slice Ao19 t241.length co19 : Value).ownBlock) _ _ t241 t244 t245 t246 t249 t250 _ ?side1 ?side2 A11.out).mono ?_); (case side1 => exact Kd.R_V (Kd.R_tight rfl (Kd.R_apart' (HO238.out) (Kd.R_typed HO234.out) (by decide)))); (case side2 => exact Kd.R_V (Kd.R_tight rfl (Kd.R_apart' (HO243.out) (Kd.R_typed HO234.out) (by decide)))); rintro e w20 ⟨v247, rfl, ho0, hb⟩; refine ⟨_, rfl, ?_⟩; have n0_ := asd (Kd.R_below (rUp HO234.out) hb); have n1_ := asd (Kd.R_elder' (rUp HO238.out) (Kd.R_base ho0) hb); have n2_ := asd (Kd.R_elder' (rUp HO243.out) (Kd.R_base ho0) hb); have n3_ := asd (Kd.R_lower (Kd.R_new' (Kd.R_new' (Kd.R_mono (ok' := fun k_ => True) ho0 (fun _ hk_ => trivial)) (Kd.R_lt (rUp HO238.out))) (Kd.R_lt (rUp HO243.out))) (below_size hbw)); have n4_ := asd (below_step hbw hb); clear HO234; clear HO238; clear HO243; clear HB; have HO234 := n0_; have HO238 := n1_; have HO243 := n2_; have HO248 := n3_; have HB := n4_; clear n0_ n1_ n2_ n3_ n4_; (try clear hb); (try clear ho0)) | ((with_reducible refine gate_dst (N := 7) rfl ?_); refine box_event ?hg (N := 7) ?hd (cs := #[.bool false, .slice none 0 0, .int .i64 0]) (t := 60) ?hr ?_; (case hd => rfl); (case hg => rfl); (case hr => first | (go_simp; done) | (go_simp; rfl)); intro gb251 hg w21 hbox hb; have n0_ := asd (Kd.R_below (rUp HO234.out) hb); have n1_ := asd (Kd.R_below (rUp HO238.out) hb); have n2_ := asd (Kd.R_below (rUp HO243.out) hb); have n3_ := asd (Kd.R_below (rUp HO248.out) hb); have n4_ := asd (below_step hbw hb); have n5_ := asd (hbox); have n6_ := asd ((by rw [hg]; exact (below_size hbw) : w.heap.size ≤ gb251)); have n7_ := asd ((by rw [hg]; exact (below_size hbw) : w.heap.size ≤ gb251)); clear HO234; clear HO238; clear HO243; clear HO248; clear HB; have HO234 := n0_; have HO238 := n1_; have HO243 := n2_; have HO248 := n3_; have HB := n4_; have BK251 := n5_; have GW251 := n6_; have GE251 := n7_; clear n0_ n1_ n2_ n3_ n4_ n5_ n6_ n7_; clear hb hbox hg; obtain ⟨hcz22_0, hcz22_1, hcz22_2, hfz22_0, hfz22_1, hfz22_2⟩ := cz3 BK251.out; obtain ⟨Ao23, co23, eo23⟩ := Kd.R_slice HO248.out; subst eo23) | ((with_reducible refine gate_callee (f := 47) rfl ?_); refine goesL_ (some 34) rfl rfl Tryz.func47 (by kernel_rfl) rfl #[.agg #[.bool t245, .slice Ao23 t246.length co23, .int .i64 t249], .int .i64 2] rfl eqA ?_; (with_reducible refine (dyad_Round.calls t245 _ _ t246 t249 2 t252 t253 _ ?side1 ?side2 A12.out).mono ?_); (case side1 => refine (Kd.R_reads' (e := 83) (base := w.heap.size) (ok := fun k_ => ((True ∧ some k_ ≠ (.slice Ao18 t236.length co18 : Value).ownBlock) ∧ some k_ ≠ (.slice Ao19 t241.length co19 : Value).ownBlock)) (n := t246.length) (c := co23) ?_).2.2; exact (by (with_reducible repeat (first | apply Kd.R_alloc | apply Kd.R_drewN | apply Kd.R_drew)); exact (Kd.R_mono (Kd.R_far (p := ⟨gb251, 2, none⟩) (Kd.R_far (p := ⟨gb251, 1, none⟩) (Kd.R_far (p := ⟨gb251, 0, none⟩) (Kd.R_types HO248.out BK251.out (by decide)) (fun _ hk => hk.2) (.bool t245)) (fun _ hk => hk.2) (.slice Ao23 t246.length co23)) (fun _ hk => hk.2) (.int .i64 t249)) (fun _ h_ => h_.1)))); (case side2 => exact (Kd.R_reads' HO248.out).2.1); rintro e w24 ⟨rfl, hb⟩; refine ⟨_, rfl, ?_⟩; have n0_ := asd (Kd.R_below (by (with_reducible repeat (first | apply Kd.R_alloc | apply Kd.R_drewN | apply Kd.R_drew)); exact (Kd.R_mono (Kd.R_far (p := ⟨gb251, 2, none⟩) (Kd.R_far (p := ⟨gb251, 1, none⟩) (Kd.R_far (p := ⟨gb251, 0, none⟩) (Kd.R_types HO234.out BK251.out (by decide)) (fun _ hk => hk.2) (.bool t245)) (fun _ hk => hk.2) (.slice Ao23 t246.length co23)) (fun _ hk => hk.2) (.int .i64 t249)) (fun _ h_ => h_.1))) hb); have n1_ := asd (Kd.R_below (by (with_reducible repeat (first | apply Kd.R_alloc | apply Kd.R_drewN | apply Kd.R_drew)); exact (Kd.R_mono (Kd.R_far (p := ⟨gb251, 2, none⟩) (Kd.R_far (p := ⟨gb251, 1, none⟩) (Kd.R_far (p := ⟨gb251, 0, none⟩) (Kd.R_types HO238.out BK251.out (by decide)) (fun _ hk => hk.2) (.bool t245)) (fun _ hk => hk.2) (.slice Ao23 t246.length co23)) (fun _ hk => hk.2) (.int .i64 t249)) (fun _ h_ => h_.1))) hb); have n2_ := asd (Kd.R_below (by (with_reducible repeat (first | apply Kd.R_alloc | apply Kd.R_drewN | apply Kd.R_drew)); exact (Kd.R_mono (Kd.R_far (p := ⟨gb251, 2, none⟩) (Kd.R_far (p := ⟨gb251, 1, none⟩) (Kd.R_far (p := ⟨gb251, 0, none⟩) (Kd.R_types HO243.out BK251.out (by decide)) (fun _ hk => hk.2) (.bool t245)) (fun _ hk => hk.2) (.slice Ao23 t246.length co23)) (fun _ hk => hk.2) (.int .i64 t249)) (fun _ h_ => h_.1))) hb); have n3_ := asd (Kd.R_below (by (with_reducible repeat (first | apply Kd.R_alloc | apply Kd.R_drewN | apply Kd.R_drew)); exact (Kd.R_mono (Kd.R_far (p := ⟨gb251, 2, none⟩) (Kd.R_far (p := ⟨gb251, 1, none⟩) (Kd.R_far (p := ⟨gb251, 0, none⟩) (Kd.R_types HO248.out BK251.out (by decide)) (fun _ hk => hk.2) (.bool t245)) (fun _ hk => hk.2) (.slice Ao23 t246.length co23)) (fun _ hk => hk.2) (.int .i64 t249)) (fun _ h_ => h_.1))) hb); have n4_ := asd (blk_below (g := gb251) (o := .cells #[.bool t245, .slice Ao23 t246.length co23, .int .i64 t249] 60 (0, 0)) (by (with_reducible repeat (first | refine blk_drewN ?_ _ | refine blk_drew ?_ | refine blk_alloc ?_ _)); refine blk_put (cs := #[.bool t245, .slice Ao23 t246.length co23, .int .i64 0]) ?_ 2 _ rfl; (with_reducible repeat (first | refine blk_drewN ?_ _ | refine blk_drew ?_ | refine blk_alloc ?_ _)); refine blk_put (cs := #[.bool t245, .slice none 0 0, .int .i64 0]) ?_ 1 _ rfl; (with_reducible repeat (first | refine blk_drewN ?_ _ | refine blk_drew ?_ | refine blk_alloc ?_ _)); refine blk_put (cs := #[.bool false, .slice none 0 0, .int .i64 0]) ?_ 0 _ rfl; (with_reducible repeat (first | refine blk_drewN ?_ _ | refine blk_drew ?_ | refine blk_alloc ?_ _)); exact BK251.out) hb); have n5_ := asd (below_step hbs hb); clear HO234; clear HO238; clear HO243; clear HO248; clear BK251; clear HB; have HO234 := n0_; have HO238 := n1_; have HO243 := n2_; have HO248 := n3_; have BK251 := n4_; have HB := n5_; clear n0_ n1_ n2_ n3_ n4_ n5_; (try clear hb)))
        go_ret2
        exact ⟨_, N1.out.1, N1.out.2, eqC, hbs⟩
end Go.Proofs.YthmeocigliephaaGreatDoor.Big
end
section
namespace Go.Proofs.YthmeocigliephaaGreatDoor.Big
open Go.Proofs.YthmeocigliephaaGreatDoor.PSu Go.Proofs.YthmeocigliephaaGreatDoor.Plain Ieee
def magN (f : Nat) : Nat := manti f * 2 ^ (expoV f + 1074).toNat
theorem h53 : (2 : Nat) ^ 53 = 9007199254740992 := by decide
theorem h52 : (2 : Nat) ^ 52 = 4503599627370496 := by decide
theorem bits_val {m K : Nat} (h1 : m < 9007199254740992) (h2 : 4503599627370496 ≤ m ∨ K = 0) (hf : K * 4503599627370496 + m < 9218868437227405312) : magN (K * 4503599627370496 + m) = m * 2 ^ K := by
  obtain ⟨f, hff⟩ : ∃ f, K * 4503599627370496 + m = f := ⟨_, rfl⟩
  rw [hff] at hf ⊢
  by_cases hm : 4503599627370496 ≤ m
  · have e1 : expo f = K + 1 := by unfold expo; omega
    have e2 : frac f = m - 4503599627370496 := by unfold frac; omega
    have e3 : manti f = m := by unfold manti; rw [e1, if_neg (by omega), e2]; omega
    have e4 : (expoV f + 1074).toNat = K := by unfold expoV; rw [e1, if_neg (by omega)]; omega
    unfold magN
    rw [e3, e4]
  · have hK := h2.resolve_left hm
    subst hK
    have e1 : expo f = 0 := by unfold expo; omega
    have e2 : frac f = m := by unfold frac; omega
    have e3 : manti f = m := by unfold manti; rw [e1, if_pos rfl, e2]
    have e4 : (expoV f + 1074).toNat = 0 := by unfold expoV; rw [e1, if_pos rfl]; rfl
    unfold magN
    rw [e3, e4]
theorem tail_val {q k : Nat} (h1 : q ≤ 9007199254740992) (h2 : 4503599627370496 ≤ q ∨ k = 0) (hq : q ≠ 0) :
    (tailV q ((k : Int) - 1074) < infB → magN (tailV q ((k : Int) - 1074)) = q * 2 ^ k) ∧ (bl (q * 2 ^ k) ≤ 2098 → tailV q ((k : Int) - 1074) < infB) := by
  have hbq := bl_mul_pow hq k
  unfold tailV
  by_cases hb : 53 < bl q
  · have hm : q = 9007199254740992 := by
      have : ¬ q < 2 ^ 53 := fun h => by have := bl_le.2 h; omega
      rw [h53] at this; omega
    subst hm
    have hb1 : bl 9007199254740992 = 54 := by decide
    have hb2 : bl (9007199254740992 / 2) = 53 := by decide
    rw [if_pos hb, hb2]
    by_cases ho : 1024 < ((53 : Nat) : Int) + ((k : Int) - 1074 + 1)
    · rw [if_pos ho]
      exact ⟨fun h => absurd h (by omega), fun h => by omega⟩
    · rw [if_neg ho]
      have hbo : bitsOf (9007199254740992 / 2) ((k : Int) - 1074 + 1) = (k + 1) * 4503599627370496 + 4503599627370496 := by unfold bitsOf; omega
      rw [hbo]
      have hlt : (k + 1) * 4503599627370496 + 4503599627370496 < infB := by unfold infB; omega
      refine ⟨fun _ => ?_, fun _ => hlt⟩
      rw [bits_val (by omega) (.inl (by omega)) hlt, Nat.pow_succ]; omega
  · have hm : q < 9007199254740992 := by have := bl_le.1 (show bl q ≤ 53 by omega); rw [h53] at this; exact this
    rw [if_neg hb]
    by_cases ho : 1024 < (bl q : Int) + ((k : Int) - 1074)
    · rw [if_pos ho]
      refine ⟨fun h => absurd h (by omega), fun h => ?_⟩
      rw [hbq] at h; omega
    · rw [if_neg ho]
      have hbo : bitsOf q ((k : Int) - 1074) = k * 4503599627370496 + q := by unfold bitsOf; omega
      rw [hbo]
      have hlt : k * 4503599627370496 + q < infB := by
        unfold infB
        rcases h2 with h | h
        · have : bl q = 53 := bl_unique (k := 52) (by rw [h52]; exact h) (by rw [h53]; exact hm)
          omega
        · subst h; omega
      exact ⟨fun _ => bits_val hm h2 hlt, fun _ => hlt⟩
def qN (n : Nat) : Nat := n / 2 ^ (bl n - 53) + if incV n (bl n - 53) false true = true then 1 else 0
theorem magV_val (n : Nat) (hn : n ≠ 0) :
    (magV n (-1074) false true < infB → magN (magV n (-1074) false true) = qN n * 2 ^ (bl n - 53)) ∧ (bl n ≤ 2098 → bl (qN n * 2 ^ (bl n - 53)) ≤ 2098 → magV n (-1074) false true < infB) := by
  obtain ⟨k, hk⟩ : ∃ k, bl n - 53 = k := ⟨_, rfl⟩
  have hP : 0 < 2 ^ k := Nat.pow_pos (by omega)
  have hb0 : bl n ≠ 0 := by rw [bl_pos hn]; omega
  have hlt : n < 2 ^ bl n := bl_le.1 (Nat.le_refl _)
  have hq : qN n ≤ 9007199254740992 ∧ (4503599627370496 ≤ qN n ∨ k = 0) ∧ qN n ≠ 0 := by
    unfold qN
    rw [hk]
    by_cases hk0 : k = 0
    · subst hk0
      have hi : incV n 0 false true = false := by unfold incV; simp [Nat.mod_one]
      have h5 : n < 2 ^ 53 := bl_le.1 (by omega)
      rw [h53] at h5
      rw [hi, Nat.pow_zero, Nat.div_one, if_neg (by simp)]
      exact ⟨by omega, .inr rfl, by omega⟩
    · have hbl : bl n = 53 + k := by omega
      have h1 : n / 2 ^ k < 2 ^ 53 := by
        rw [Nat.div_lt_iff_lt_mul hP, ← Nat.pow_add, ← hbl]; exact hlt
      have h2 : 2 ^ 52 ≤ n / 2 ^ k := by
        rw [Nat.le_div_iff_mul_le hP, ← Nat.pow_add]
        refine Nat.le_of_not_lt fun h => ?_
        have := bl_le.2 h
        omega
      rw [h53] at h1
      rw [h52] at h2
      refine ⟨by split <;> omega, .inl (by omega), by omega⟩
  have ht := tail_val hq.1 hq.2.1 hq.2.2
  have he : magV n (-1074) false true = if 1024 < (bl n : Int) + -1074 then infB else tailV (qN n) ((k : Int) - 1074) := by
    unfold magV
    by_cases h1 : 1024 < (bl n : Int) + -1074
    · rw [if_pos h1, if_pos h1, if_pos (by rfl)]
    · rw [if_neg h1, if_neg h1, if_neg (by omega)]
      have hl : lastV ((bl n : Int) + -1074) = (k : Int) - 1074 := by unfold lastV; split <;> omega
      rw [hl]
      by_cases hk0 : k = 0
      · have hqn : qN n = n := by
          unfold qN
          rw [hk, hk0]
          have hi : incV n 0 false true = false := by unfold incV; simp [Nat.mod_one]
          rw [hi, Nat.pow_zero, Nat.div_one, if_neg (by simp)]; rfl
        rw [if_pos (by omega), hqn, show ((-1074 : Int) - ((k : Int) - 1074)).toNat = 0 by omega, Nat.pow_zero, Nat.mul_one]
      · rw [if_neg (by omega), show ((k : Int) - 1074 - -1074).toNat = k by omega]
        unfold qN
        rw [hk]
  rw [he, hk]
  by_cases h1 : 1024 < (bl n : Int) + -1074
  · rw [if_pos h1]
    exact ⟨fun h => absurd h (by omega), fun h _ => by omega⟩
  · rw [if_neg h1]
    exact ⟨ht.1, fun _ h => ht.2 h⟩
theorem nearest (n k : Nat) (hk : 1 ≤ k) (t : Int) : ((n : Int) - ((n / 2 ^ k + if incV n k false true = true then 1 else 0 : Nat) : Int) * ((2 ^ k : Nat) : Int)).natAbs ≤ ((n : Int) - t * ((2 ^ k : Nat) : Int)).natAbs := by
  have hD : 2 ^ k = 2 * 2 ^ (k - 1) := by
    obtain ⟨j, rfl⟩ : ∃ j, k = j + 1 := ⟨k - 1, by omega⟩
    rw [Nat.pow_succ, Nat.add_sub_cancel]; omega
  have hm := Nat.div_add_mod n (2 ^ k)
  have hr := Nat.mod_lt n (show 2 ^ k > 0 from Nat.pow_pos (by omega))
  have hinc : (incV n k false true = true → 2 ^ (k - 1) ≤ n % 2 ^ k) ∧ (¬ incV n k false true = true → n % 2 ^ k ≤ 2 ^ (k - 1)) := by
    unfold incV
    by_cases h1 : 2 ^ (k - 1) < n % 2 ^ k
    · simp [h1]; omega
    · by_cases h2 : n % 2 ^ k = 2 ^ (k - 1)
      · simp [h2]
      · simp [h1, h2]; omega
  generalize n / 2 ^ k = Q at hm ⊢
  generalize n % 2 ^ k = r at hm hr hinc
  generalize 2 ^ (k - 1) = H at hD hinc
  generalize 2 ^ k = D at hD hm hr ⊢
  have hn : (n : Int) = (D : Int) * (Q : Int) + (r : Int) := by rw [← hm]; simp
  have e2 : (n : Int) - t * (D : Int) = (r : Int) - (t - Q) * (D : Int) := by
    rw [hn, Int.sub_mul, Int.mul_comm (Q : Int)]; omega
  have hu : (t - Q) * (D : Int) ≤ 0 ∨ (D : Int) ≤ (t - Q) * (D : Int) := by
    rcases Int.lt_or_le 0 (t - Q) with h | h
    · right
      have := Int.mul_le_mul_of_nonneg_right (show (1 : Int) ≤ t - Q by omega) (show (0 : Int) ≤ (D : Int) by omega)
      omega
    · left
      have := Int.mul_le_mul_of_nonneg_right h (show (0 : Int) ≤ (D : Int) by omega)
      omega
  rw [e2]
  by_cases hc : incV n k false true = true
  · rw [if_pos hc]
    have := hinc.1 hc
    have e1 : (n : Int) - ((Q + 1 : Nat) : Int) * (D : Int) = (r : Int) - (D : Int) := by
      rw [hn, show ((Q + 1 : Nat) : Int) = (Q : Int) + 1 by omega, Int.add_mul, Int.mul_comm (Q : Int)]; omega
    rw [e1]; omega
  · rw [if_neg hc]
    have := hinc.2 hc
    have e1 : (n : Int) - ((Q + 0 : Nat) : Int) * (D : Int) = (r : Int) := by
      rw [hn, Nat.add_zero, Int.mul_comm (Q : Int)]; omega
    rw [e1]; omega
theorem q_exact {n k : Nat} (h : n % 2 ^ k = 0) : (n / 2 ^ k + if incV n k false true = true then 1 else 0) * 2 ^ k = n := by
  have hi : incV n k false true = false := by
    have : 0 < 2 ^ (k - 1) := Nat.pow_pos (by omega)
    unfold incV
    rw [h]
    simp
    omega
  rw [hi, if_neg (by simp), Nat.add_zero]
  have := Nat.div_add_mod n (2 ^ k)
  rw [Nat.mul_comm]; omega
theorem flz_sign {f : Nat} (h : f < infB) (neg : Bool) : Fin64 (signV neg f) ∧ flz (signV neg f) = if neg = true then -(magN f : Int) else (magN f : Int) := by
  unfold infB at h
  have hm : ∀ b, flz b = if sgn b = true then -(magN b : Int) else (magN b : Int) := by
    intro b
    unfold flz floV magN
    rw [Int.natCast_mul, Int.natCast_pow]
    split
    · rw [Int.neg_mul]; rfl
    · rfl
  cases neg
  · rw [show signV false f = f from rfl]
    refine ⟨⟨by omega, by omega⟩, ?_⟩
    rw [hm, show sgn f = false from decide_eq_false (by omega)]
  · rw [show signV true f = f + 9223372036854775808 from rfl]
    refine ⟨⟨by omega, by omega⟩, ?_⟩
    have e1 : expo (f + 9223372036854775808) = expo f := by unfold expo; omega
    have e2 : frac (f + 9223372036854775808) = frac f := by unfold frac; omega
    have e3 : magN (f + 9223372036854775808) = magN f := by unfold magN manti expoV; rw [e1, e2]
    rw [hm, show sgn (f + 9223372036854775808) = true from decide_eq_true (by omega), e3]
theorem rnd_eq {z : Int} (hz : z ≠ 0) : rndZ z 2 = signV (decide (z < 0)) (magV z.natAbs (-1074) false true) := by
  unfold rndZ
  rw [if_neg hz, roundV_eq]
  have : (if decide (z < 0) = true then (2 : Int) == 1 else (2 : Int) == 3) = false := by split <;> rfl
  rw [this]; rfl
end Go.Proofs.YthmeocigliephaaGreatDoor.Big
end
section
namespace Go.Proofs.YthmeocigliephaaGreatDoor
open Go.RowKit Go.Proofs.YthmeocigliephaaGreatDoorW.PrintWords Go.Proofs.YthmeocigliephaaGreatDoor.Big
def sums_Exact.f (l0 : List Nat) (a1 : Int) : Option (Nat × Int) :=
  if l0.length < 4611686018427387904 ∧ ∀ b ∈ l0, b < 18446744073709551616 then some (exactW l0 a1 (canN (sumZ l0) (-1074))) else none
end Go.Proofs.YthmeocigliephaaGreatDoor
end
section
namespace Go.Proofs.YthmeocigliephaaGreatDoor
open Go.RowKit Go.Proofs.YthmeocigliephaaGreatDoorW.PrintWords Go.Proofs.YthmeocigliephaaGreatDoor.Big
def cusplaw05_sure.f : Option Bool := some true
end Go.Proofs.YthmeocigliephaaGreatDoor
end
section
namespace Go.Proofs.YthmeocigliephaaGreatDoor.PSu
attribute [local go_sem] f64bits_run f64from_run run_float_some max2_int min2_int max_two min_two max_three min_three max_four min_four
def cuspref02_Float.f (k : Nat) (a0 : Nat) : Option (Bool × List Int × Int) := if (wrap64 (Go.bits .and .u64 (((a0 : Nat) : Int) / 4503599627370496) 2047)) = 0 then ((cuspref02_norm.f k ((((a0 : Nat) : Int) / 9223372036854775808) == 1) (([(Go.bits .and .u64 ((a0 : Nat) : Int) 4503599627370495) % 4294967296, ((Go.bits .and .u64 ((a0 : Nat) : Int) 4503599627370495) / 4294967296) % 4294967296] : List Int)) (1 - 1075)).bind fun bt361 => (some (bt361.1, bt361.2.1, bt361.2.2))) else ((cuspref02_norm.f k ((((a0 : Nat) : Int) / 9223372036854775808) == 1) (([(Go.bits .or .u64 (Go.bits .and .u64 ((a0 : Nat) : Int) 4503599627370495) 4503599627370496) % 4294967296, ((Go.bits .or .u64 (Go.bits .and .u64 ((a0 : Nat) : Int) 4503599627370495) 4503599627370496) / 4294967296) % 4294967296] : List Int)) (wrap64 ((wrap64 (Go.bits .and .u64 (((a0 : Nat) : Int) / 4503599627370496) 2047)) - 1075))).bind fun bt369 => (some (bt369.1, bt369.2.1, bt369.2.2)))
theorem cuspref02_Float.calls (k : Nat) (a0 : Nat) (r1 : Bool) (r2 : List Int) (r3 : Int) (w : World) (h : cuspref02_Float.f k a0 = some (r1, r2, r3)) :
  Calls Tryz.prog 26 #[.float .f64 a0] w fun e w' => ∃ v1_ : Value, e = .returned (.agg #[.bool r1, v1_, .int .i64 r3]) ∧ Kd.R (Kd.int .u32) 83 w' w.heap.size (fun _ => True) v1_ r2 ∧ Below w.heap.size w w' := by
 have hu41 := Tryz.underlying41
 have HB := asd (Below.refl w.heap.size w)
 have H := h
 clear h
 unfold cuspref02_Float.f at H
 by_cases c2 : (wrap64 (Go.bits .and .u64 (((a0 : Nat) : Int) / 4503599627370496) 2047)) = 0
 ·rw [if_pos c2] at H
  have c2b0 := beq_iff_eq.mpr c2
  have c2b1 := bne_eq_false_iff_eq.mpr c2
  clear c2
  obtain ⟨y358, hy358⟩ : ∃ y_ : List Int, y_ = (([(Go.bits .and .u64 ((a0 : Nat) : Int) 4503599627370495) % 4294967296, ((Go.bits .and .u64 ((a0 : Nat) : Int) 4503599627370495) / 4294967296) % 4294967296] : List Int)) := ⟨_, rfl⟩
  try rw [Option.bind_some] at H
  try rw [← hy358] at H
  have Ny358 := asd hy358
  clear hy358
  replace H := Option.bind_eq_some_iff.mp H
  obtain ⟨⟨t361, t362, t365⟩, A30, H⟩ := H
  replace H : (some (t361, t362, t365)) = some (r1, r2, r3) := H
  have A3 := asd A30
  clear A30
  simp only [Option.some.injEq, Prod.mk.injEq] at H
  obtain ⟨rfl, rfl, rfl⟩ := H
  go_enter Tryz.func26, Tryz.ntmps26
  go_wp2_with (first | ((with_reducible refine gate_dst (N := 2) rfl ?_); refine box_ev (w := w) ?hg (N := 2) ?hd hbw (cs := #[.bool false, .slice none 0 0, .int .i64 0]) (t := 41) ?hr ?_; (case hd => rfl); (case hg => rfl); (case hr => first | (go_simp; done) | (go_simp; rfl)); clear HB; intro gb357 w4 HB BK357 GW357; have GE357 := GW357) | ((with_reducible refine gate_dst (N := 26) rfl ?_); refine Kd.R_lit (Kd.int .u32) _ 83 ?hg (N := 26) ?hd (xs := ([(Go.bits .and .u64 ((a0 : Nat) : Int) 4503599627370495) % 4294967296, ((Go.bits .and .u64 ((a0 : Nat) : Int) 4503599627370495) / 4294967296) % 4294967296] : List Int)) (inner := [.int .u32 ((Go.bits .and .u64 ((a0 : Nat) : Int) 4503599627370495) % 4294967296), .int .u32 (((Go.bits .and .u64 ((a0 : Nat) : Int) 4503599627370495) / 4294967296) % 4294967296)]) (ok := fun _ => True) (okp := fun _ => True) ?hr ?hp (fun _ hk => hk) trivial (Below.refl _ _) (Nat.le_refl _) (by simp) ?_; (case hd => rfl); (case hg => rfl); (case hr => first | (go_simp; done) | (go_simp; rfl)); (case hp => exact (Reps.one (show Kd.M (Kd.int .u32) _ _ _ ((Go.bits .and .u64 ((a0 : Nat) : Int) 4503599627370495) % 4294967296) [.int .u32 ((Go.bits .and .u64 ((a0 : Nat) : Int) 4503599627370495) % 4294967296)] from rfl) (Reps.one (show Kd.M (Kd.int .u32) _ _ _ (((Go.bits .and .u64 ((a0 : Nat) : Int) 4503599627370495) / 4294967296) % 4294967296) [.int .u32 (((Go.bits .and .u64 ((a0 : Nat) : Int) 4503599627370495) / 4294967296) % 4294967296)] from rfl) (Reps.none _ _)))); intro v359 w5 ho6 hb hg_ hnew_; clear hg_ hnew_; (first | rw [← Ny358.out] at ho6 | (simp only [Int.reduceToNat] at ho6; rw [← Ny358.out] at ho6)); have n0_ := asd (Kd.R_lower ho6 (below_size hbs)); have n1_ := asd (blk_below (g := gb357) (o := .cells #[.bool false, .slice none 0 0, .int .i64 0] 41 (0, 0)) (blkU BK357.out) hb); have n2_ := asd (below_step hbs hb); clear BK357; clear HB; have HO360 := n0_; have BK357 := n1_; have HB := n2_; clear n0_ n1_ n2_; clear hb ho6; obtain ⟨Ao7, co7, eo7⟩ := Kd.R_slice HO360.out; subst eo7) | ((with_reducible refine gate_callee (f := 65) rfl ?_); refine goesL_ (some 29) rfl rfl Tryz.func65 (by kernel_rfl) rfl #[.bool ((((a0 : Nat) : Int) / 9223372036854775808) == 1), .slice Ao7 y358.length co7, .int .i64 (1 - 1075)] rfl eqA ?_; (with_reducible refine (cuspref02_norm.calls k ((((a0 : Nat) : Int) / 9223372036854775808) == 1) (fun k_ => some k_ = (.slice Ao7 y358.length co7 : Value).ownBlock) (.slice Ao7 y358.length co7) y358 (1 - 1075) t361 t362 t365 w _ ?side1 ?side2 A3.out).mono ?_); (case side1 => repeat (first | (with_reducible first | exact HB.out | apply below_alloc | apply pw_below_drewN | apply below_drew1 | refine below_set ?_ GE357.out) | exact HB.out)); (case side2 => exact Kd.R_tight rfl HO360.out); rintro e w8 ⟨v363, rfl, ho0, hb, hkp⟩; refine ⟨_, rfl, ?_⟩; have n0_ := asd (blk_kept (blkU BK357.out) hkp (fun hs_ => (fun e_ => (Kd.R_ne HO360.out BK357.out (by decide)) e_) hs_)); have n1_ := asd (Kd.R_mono (ok' := fun k_ => True) ho0 (fun k_ hk_ => trivial)); have n2_ := asd (hb); clear BK357; clear HB; clear HO360; have BK357 := n0_; have HO364 := n1_; have HB := n2_; clear n0_ n1_ n2_; (try clear hb); (try clear hkp); (try clear ho0); obtain ⟨hcz9_0, hcz9_1, hcz9_2, hfz9_0, hfz9_1, hfz9_2⟩ := cz3 BK357.out; obtain ⟨Ao10, co10, eo10⟩ := Kd.R_slice HO364.out; subst eo10))
  refine bodyPost_ret (results_cell_row rfl _ _ gb357 41 #[.bool t361, .slice Ao10 t362.length co10, .int .i64 t365] (0, 0) _ rfl (by (with_reducible repeat (first | refine blk_drewN ?_ _ | refine blk_drew ?_ | refine blk_alloc ?_ _)); refine blk_put (cs := #[.bool t361, .slice Ao10 t362.length co10, .int .i64 0]) ?_ 2 _ rfl; (with_reducible repeat (first | refine blk_drewN ?_ _ | refine blk_drew ?_ | refine blk_alloc ?_ _)); refine blk_put (cs := #[.bool t361, .slice none 0 0, .int .i64 0]) ?_ 1 _ rfl; (with_reducible repeat (first | refine blk_drewN ?_ _ | refine blk_drew ?_ | refine blk_alloc ?_ _)); refine blk_put (cs := #[.bool false, .slice none 0 0, .int .i64 0]) ?_ 0 _ rfl; (with_reducible repeat (first | refine blk_drewN ?_ _ | refine blk_drew ?_ | refine blk_alloc ?_ _)); exact BK357.out) Tryz.underlying41 rfl (by kernel_rfl)) rfl ?_
  exact ⟨_, eqC, by (with_reducible repeat (first | apply Kd.R_alloc | apply Kd.R_drewN | apply Kd.R_drew)); exact Kd.R_mono (Kd.R_far (p := ⟨gb357, 2, none⟩) (Kd.R_far (p := ⟨gb357, 1, none⟩) (Kd.R_far (p := ⟨gb357, 0, none⟩) (Kd.R_types HO364.out BK357.out (by decide)) (fun _ hk => hk.2) (.bool t361)) (fun _ hk => hk.2) (.slice Ao10 t362.length co10)) (fun _ hk => hk.2) (.int .i64 t365)) (fun _ hk => trivial), hbs⟩
 ·rw [if_neg c2] at H
  have c2b0 := beq_eq_false_iff_ne.mpr c2
  have c2b1 := bne_iff_ne.mpr c2
  obtain ⟨y366, hy366⟩ : ∃ y_ : List Int, y_ = (([(Go.bits .or .u64 (Go.bits .and .u64 ((a0 : Nat) : Int) 4503599627370495) 4503599627370496) % 4294967296, ((Go.bits .or .u64 (Go.bits .and .u64 ((a0 : Nat) : Int) 4503599627370495) 4503599627370496) / 4294967296) % 4294967296] : List Int)) := ⟨_, rfl⟩
  try rw [Option.bind_some] at H
  try rw [← hy366] at H
  have Ny366 := asd hy366
  clear hy366
  replace H := Option.bind_eq_some_iff.mp H
  obtain ⟨⟨t369, t370, t373⟩, A110, H⟩ := H
  replace H : (some (t369, t370, t373)) = some (r1, r2, r3) := H
  have A11 := asd A110
  clear A110
  simp only [Option.some.injEq, Prod.mk.injEq] at H
  obtain ⟨rfl, rfl, rfl⟩ := H
  go_enter Tryz.func26, Tryz.ntmps26
  go_wp2_with (first | ((with_reducible refine gate_dst (N := 2) rfl ?_); refine box_ev (w := w) ?hg (N := 2) ?hd hbw (cs := #[.bool false, .slice none 0 0, .int .i64 0]) (t := 41) ?hr ?_; (case hd => rfl); (case hg => rfl); (case hr => first | (go_simp; done) | (go_simp; rfl)); clear HB; intro gb357 w12 HB BK357 GW357; have GE357 := GW357) | ((with_reducible refine gate_dst (N := 26) rfl ?_); refine Kd.R_lit (Kd.int .u32) _ 83 ?hg (N := 26) ?hd (xs := ([(Go.bits .or .u64 (Go.bits .and .u64 ((a0 : Nat) : Int) 4503599627370495) 4503599627370496) % 4294967296, ((Go.bits .or .u64 (Go.bits .and .u64 ((a0 : Nat) : Int) 4503599627370495) 4503599627370496) / 4294967296) % 4294967296] : List Int)) (inner := [.int .u32 ((Go.bits .or .u64 (Go.bits .and .u64 ((a0 : Nat) : Int) 4503599627370495) 4503599627370496) % 4294967296), .int .u32 (((Go.bits .or .u64 (Go.bits .and .u64 ((a0 : Nat) : Int) 4503599627370495) 4503599627370496) / 4294967296) % 4294967296)]) (ok := fun _ => True) (okp := fun _ => True) ?hr ?hp (fun _ hk => hk) trivial (Below.refl _ _) (Nat.le_refl _) (by simp) ?_; (case hd => rfl); (case hg => rfl); (case hr => first | (go_simp; done) | (go_simp; rfl)); (case hp => exact (Reps.one (show Kd.M (Kd.int .u32) _ _ _ ((Go.bits .or .u64 (Go.bits .and .u64 ((a0 : Nat) : Int) 4503599627370495) 4503599627370496) % 4294967296) [.int .u32 ((Go.bits .or .u64 (Go.bits .and .u64 ((a0 : Nat) : Int) 4503599627370495) 4503599627370496) % 4294967296)] from rfl) (Reps.one (show Kd.M (Kd.int .u32) _ _ _ (((Go.bits .or .u64 (Go.bits .and .u64 ((a0 : Nat) : Int) 4503599627370495) 4503599627370496) / 4294967296) % 4294967296) [.int .u32 (((Go.bits .or .u64 (Go.bits .and .u64 ((a0 : Nat) : Int) 4503599627370495) 4503599627370496) / 4294967296) % 4294967296)] from rfl) (Reps.none _ _)))); intro v367 w13 ho14 hb hg_ hnew_; clear hg_ hnew_; (first | rw [← Ny366.out] at ho14 | (simp only [Int.reduceToNat] at ho14; rw [← Ny366.out] at ho14)); have n0_ := asd (Kd.R_lower ho14 (below_size hbs)); have n1_ := asd (blk_below (g := gb357) (o := .cells #[.bool false, .slice none 0 0, .int .i64 0] 41 (0, 0)) (blkU BK357.out) hb); have n2_ := asd (below_step hbs hb); clear BK357; clear HB; have HO368 := n0_; have BK357 := n1_; have HB := n2_; clear n0_ n1_ n2_; clear hb ho14; obtain ⟨Ao15, co15, eo15⟩ := Kd.R_slice HO368.out; subst eo15) | ((with_reducible refine gate_callee (f := 65) rfl ?_); refine goesL_ (some 29) rfl rfl Tryz.func65 (by kernel_rfl) rfl #[.bool ((((a0 : Nat) : Int) / 9223372036854775808) == 1), .slice Ao15 y366.length co15, .int .i64 (wrap64 ((wrap64 (Go.bits .and .u64 (((a0 : Nat) : Int) / 4503599627370496) 2047)) - 1075))] rfl eqA ?_; (with_reducible refine (cuspref02_norm.calls k ((((a0 : Nat) : Int) / 9223372036854775808) == 1) (fun k_ => some k_ = (.slice Ao15 y366.length co15 : Value).ownBlock) (.slice Ao15 y366.length co15) y366 (wrap64 ((wrap64 (Go.bits .and .u64 (((a0 : Nat) : Int) / 4503599627370496) 2047)) - 1075)) t369 t370 t373 w _ ?side1 ?side2 A11.out).mono ?_); (case side1 => repeat (first | (with_reducible first | exact HB.out | apply below_alloc | apply pw_below_drewN | apply below_drew1 | refine below_set ?_ GE357.out) | exact HB.out)); (case side2 => exact Kd.R_tight rfl HO368.out); rintro e w16 ⟨v371, rfl, ho0, hb, hkp⟩; refine ⟨_, rfl, ?_⟩; have n0_ := asd (blk_kept (blkU BK357.out) hkp (fun hs_ => (fun e_ => (Kd.R_ne HO368.out BK357.out (by decide)) e_) hs_)); have n1_ := asd (Kd.R_mono (ok' := fun k_ => True) ho0 (fun k_ hk_ => trivial)); have n2_ := asd (hb); clear BK357; clear HB; clear HO368; have BK357 := n0_; have HO372 := n1_; have HB := n2_; clear n0_ n1_ n2_; (try clear hb); (try clear hkp); (try clear ho0); obtain ⟨hcz17_0, hcz17_1, hcz17_2, hfz17_0, hfz17_1, hfz17_2⟩ := cz3 BK357.out; obtain ⟨Ao18, co18, eo18⟩ := Kd.R_slice HO372.out; subst eo18))
  refine bodyPost_ret (results_cell_row rfl _ _ gb357 41 #[.bool t369, .slice Ao18 t370.length co18, .int .i64 t373] (0, 0) _ rfl (by (with_reducible repeat (first | refine blk_drewN ?_ _ | refine blk_drew ?_ | refine blk_alloc ?_ _)); refine blk_put (cs := #[.bool t369, .slice Ao18 t370.length co18, .int .i64 0]) ?_ 2 _ rfl; (with_reducible repeat (first | refine blk_drewN ?_ _ | refine blk_drew ?_ | refine blk_alloc ?_ _)); refine blk_put (cs := #[.bool t369, .slice none 0 0, .int .i64 0]) ?_ 1 _ rfl; (with_reducible repeat (first | refine blk_drewN ?_ _ | refine blk_drew ?_ | refine blk_alloc ?_ _)); refine blk_put (cs := #[.bool false, .slice none 0 0, .int .i64 0]) ?_ 0 _ rfl; (with_reducible repeat (first | refine blk_drewN ?_ _ | refine blk_drew ?_ | refine blk_alloc ?_ _)); exact BK357.out) Tryz.underlying41 rfl (by kernel_rfl)) rfl ?_
  exact ⟨_, eqC, by (with_reducible repeat (first | apply Kd.R_alloc | apply Kd.R_drewN | apply Kd.R_drew)); exact Kd.R_mono (Kd.R_far (p := ⟨gb357, 2, none⟩) (Kd.R_far (p := ⟨gb357, 1, none⟩) (Kd.R_far (p := ⟨gb357, 0, none⟩) (Kd.R_types HO372.out BK357.out (by decide)) (fun _ hk => hk.2) (.bool t369)) (fun _ hk => hk.2) (.slice Ao18 t370.length co18)) (fun _ hk => hk.2) (.int .i64 t373)) (fun _ hk => trivial), hbs⟩
def cuspref05_Total.l0 : Nat → List Nat → Int → Bool → List Int → Int → Option (Bool × List Int × Int)
 | 0, _, _, _, _, _ => none
 | k + 1, x0, x4, x376000, x376001, x376002 => if x4 < (x0.length : Int) then (if 0 ≤ x4 then ((cuspref02_Float.f k (rdOf (0 : Nat) x0 x4)).bind fun bt377 => ((cuspref02_Plus.f x376000 x376001 x376002 bt377.1 bt377.2.1 bt377.2.2).bind fun bt382 => (cuspref05_Total.l0 k x0 (wrap64 (x4 + 1)) bt382.1 bt382.2.1 bt382.2.2))) else (none)) else (some (x376000, x376001, x376002))
def cuspref05_Total.f (k : Nat) (l0 : List Nat) : Option (Bool × List Int × Int) := cuspref05_Total.l0 k l0 0 false ([] : List Int) 0
def cuspref05_Total.T5 : Bool × List (List Nat × List Nat) := (true, [([], []), ([], []), ([], []), ([1, 2], [1, 2]), ([3], [3]), ([4], [4]), ([0, 5, 5], [0, 5]), ([6, 6, 0, 1, 2, 3, 4, 5, 6], [6])])
def cuspref05_Total.B5 : List Nat := [0, 0, 0, 6, 14, 30, 63, 127]
theorem cuspref05_Total.tab5 : rtab .any (opsOf Tryz.f60 5) = cuspref05_Total.T5 := by kernel_rfl
theorem cuspref05_Total.bits5 : waitsOk cuspref05_Total.T5.2 cuspref05_Total.B5 = true := by kernel_rfl
theorem cuspref05_Total.calls (k : Nat) (A0 : Option Addr) (c0 : Nat) (l0 : List Nat) (r1 : Bool) (r2 : List Int) (r3 : Int) (w : World) (hr0 : Kd.C Kd.float w A0 l0.length l0) (hc0 : l0.length ≤ c0) (h : cuspref05_Total.f k l0 = some (r1, r2, r3)) :
  Calls Tryz.prog 60 #[.slice A0 l0.length c0] w fun e w' => ∃ v1_ : Value, e = .returned (.agg #[.bool r1, v1_, .int .i64 r3]) ∧ Kd.R (Kd.int .u32) 83 w' w.heap.size (fun _ => True) v1_ r2 ∧ Below w.heap.size w w' := by
 have hu41 := Tryz.underlying41
 have HR0 := asd hr0
 have HC0 := asd hc0
 clear hr0 hc0
 have HB := asd (Below.refl w.heap.size w)
 have H := h
 clear h
 unfold cuspref05_Total.f at H
 have H' := asd H
 clear H
 go_enter Tryz.func60, Tryz.ntmps60
 go_wp2_with (first | ((with_reducible refine gate_dst (N := 2) rfl ?_); refine box_ev (w := w) ?hg (N := 2) ?hd hbw (cs := #[.bool false, .slice none 0 0, .int .i64 0]) (t := 41) ?hr ?_; (case hd => rfl); (case hg => rfl); (case hr => first | (go_simp; done) | (go_simp; rfl)); clear HB; intro gb374 w2 HB BK374 GW374; have GE374 := GW374) | ((with_reducible refine gate_dst (N := 3) rfl ?_); refine box_event ?hg (N := 3) ?hd (cs := #[.bool false, .slice none 0 0, .int .i64 0]) (t := 41) ?hr ?_; (case hd => rfl); (case hg => rfl); (case hr => first | (go_simp; done) | (go_simp; rfl)); intro gb375 hg w3 hbox hb; have n0_ := asd (blk_below (g := gb374) (o := .cells #[.bool false, .slice none 0 0, .int .i64 0] 41 (0, 0)) (blkU BK374.out) hb); have n1_ := asd (below_step hbs hb); have n2_ := asd (hbox); have n3_ := asd ((by rw [hg]; exact (below_size hbs) : w.heap.size ≤ gb375)); have n4_ := asd ((by rw [hg]; exact (below_size hbs) : w.heap.size ≤ gb375)); have n5_ := asd ((by rw [hg]; exact Nat.ne_of_lt (blk_lt (g := gb374) (o := .cells #[.bool false, .slice none 0 0, .int .i64 0] 41 (0, 0)) (blkU BK374.out)) : gb374 ≠ gb375)); have n6_ := asd ((by rw [hg]; exact Nat.ne_of_gt (blk_lt (g := gb374) (o := .cells #[.bool false, .slice none 0 0, .int .i64 0] 41 (0, 0)) (blkU BK374.out)) : gb375 ≠ gb374)); clear BK374; clear HB; have BK374 := n0_; have HB := n1_; have BK375 := n2_; have GW375 := n3_; have GE375 := n4_; have NB374_375 := n5_; have NB375_374 := n6_; clear n0_ n1_ n2_ n3_ n4_ n5_ n6_; clear hb hbox hg; have hnb4 := NB375_374.out; have hnc4 := NB374_375.out; obtain ⟨hcz5_0, hcz5_1, hcz5_2, hfz5_0, hfz5_1, hfz5_2⟩ := cz3 BK375.out))
 go_loopg [4] k (fun kq v4 w' => ∃ (x4_1 : Int) (x376000_1 : Bool) (x376001_1 : List Int) (x376002_1 : Int) (u376001 : Value), v4 = .int .i64 x4_1 ∧ Aside0 (cuspref05_Total.l0 kq l0 x4_1 x376000_1 x376001_1 x376002_1 = some (r1, r2, r3)) ∧ Aside0 (kq ≤ k) ∧ Aside0 (Kd.R (Kd.int .u32) 83 w' w.heap.size (fun _ => True) u376001 x376001_1) ∧ Aside0 (w'.heap[gb374]? = some (.cells #[.bool false, (.slice none 0 0), .int .i64 0] 41 (0, 0))) ∧ Aside0 (w'.heap[gb375]? = some (.cells #[.bool x376000_1, u376001, .int .i64 x376002_1] 41 (0, 0))) ∧ Aside0 (Below w.heap.size w w'))
 case atStart => exact ⟨(0), (false), (([] : List Int)), (0), (.slice none 0 0), eqB, H', ⟨Nat.le_refl _⟩, ⟨by first | exact Kd.R_nil _ _ _ _ _ | exact Kd.N_nil _ _ _ _ _ | exact Kd.V_nil _ _ _ _ _ | exact Kd.Q_nil _ _ _ _ _ | exact Kd.S_nil _ _ _ _ _⟩, ⟨by (with_reducible repeat (first | refine blk_drewN ?_ _ | refine blk_drew ?_ | refine blk_alloc ?_ _)); refine blk_far ?_ NB374_375.out _; (with_reducible repeat (first | refine blk_drewN ?_ _ | refine blk_drew ?_ | refine blk_alloc ?_ _)); refine blk_far ?_ NB374_375.out _; (with_reducible repeat (first | refine blk_drewN ?_ _ | refine blk_drew ?_ | refine blk_alloc ?_ _)); refine blk_far ?_ NB374_375.out _; (with_reducible repeat (first | refine blk_drewN ?_ _ | refine blk_drew ?_ | refine blk_alloc ?_ _)); exact BK374.out⟩, ⟨by (with_reducible repeat (first | refine blk_drewN ?_ _ | refine blk_drew ?_ | refine blk_alloc ?_ _)); refine blk_put (cs := #[.bool false, .slice none 0 0, .int .i64 0]) ?_ 2 _ rfl; (with_reducible repeat (first | refine blk_drewN ?_ _ | refine blk_drew ?_ | refine blk_alloc ?_ _)); refine blk_put (cs := #[.bool false, .slice none 0 0, .int .i64 0]) ?_ 1 _ rfl; (with_reducible repeat (first | refine blk_drewN ?_ _ | refine blk_drew ?_ | refine blk_alloc ?_ _)); refine blk_put (cs := #[.bool false, .slice none 0 0, .int .i64 0]) ?_ 0 _ rfl; (with_reducible repeat (first | refine blk_drewN ?_ _ | refine blk_drew ?_ | refine blk_alloc ?_ _)); exact BK375.out⟩, ⟨hbs⟩⟩
 case round =>
  clear H'
  try clear p2
  try clear c4
  try clear hcz5_0
  try clear hcz5_1
  try clear hcz5_2
  try clear hfz5_0
  try clear hfz5_1
  try clear hfz5_2
  obtain ⟨x4_1, x376000_1, x376001_1, x376002_1, u376001, rfl, HA, HK1, HO_376001, BK374, BK375, HB⟩ := hrel
  cases gk with
  | zero => exact absurd HA.out (by simp [cuspref05_Total.l0])
  | succ k1 =>
   have H := HA.out
   clear HA
   simp only [cuspref05_Total.l0] at H
   by_cases c6 : x4_1 < (l0.length : Int)
   ·rw [if_pos c6] at H
    have c6b0 := decide_eq_true c6
    clear c6
    by_cases c7 : 0 ≤ x4_1
    ·rw [if_pos c7] at H
     have c7b0 := decide_eq_true c7
     clear c7
     replace H := Option.bind_eq_some_iff.mp H
     obtain ⟨⟨t377, t378, t381⟩, A80, H⟩ := H
     replace H : ((cuspref02_Plus.f x376000_1 x376001_1 x376002_1 t377 t378 t381).bind fun bt382 => (cuspref05_Total.l0 k1 l0 (wrap64 (x4_1 + 1)) bt382.1 bt382.2.1 bt382.2.2)) = some (r1, r2, r3) := H
     have A8 := asd A80
     clear A80
     replace H := Option.bind_eq_some_iff.mp H
     obtain ⟨⟨t382, t383, t386⟩, A90, H⟩ := H
     replace H : (cuspref05_Total.l0 k1 l0 (wrap64 (x4_1 + 1)) t382 t383 t386) = some (r1, r2, r3) := H
     have A9 := asd A90
     clear A90
     have H' := asd H
     clear H
     try go_wp2
     have n0_ := asd (Kd.R_drew HO_376001.out)
     have n1_ := asd (blk_drew BK374.out)
     have n2_ := asd (blk_drew BK375.out)
     have n3_ := asd (below_drew1 HB.out)
     clear HO_376001
     clear BK374
     clear BK375
     clear HB
     have HO_376001 := n0_
     have BK374 := n1_
     have BK375 := n2_
     have HB := n3_
     clear n0_ n1_ n2_ n3_
     have p376 : 0 ≤ (x4_1 : Int) := odt
     have q376 : x4_1 < (l0.length : Int) := odt
     obtain ⟨ad376, e376, hx376_0⟩ := Kd.at_float HR0.out x4_1 p376 q376
     have hw376_0 := hx376_0
     cases e376
     replace hx376_0 := (HB.out.cell (World.block_lt_of_cell? w _ hx376_0)).trans hx376_0
     replace p376 := eq_true p376
     replace q376 := eq_true q376
     refine start_ (n := 8) (S := fun w' => w'.cell? ⟨gb375, 0, none⟩ = some (.bool x376000_1) ∧ w'.cell? ⟨gb375, 1, none⟩ = some (u376001) ∧ w'.cell? ⟨gb375, 2, none⟩ = some (.int .i64 x376002_1) ∧ w'.cell? (ad376.add (x4_1).toNat) = some (.float .f64 (rdOf (0 : Nat) l0 x4_1))) (ds := [7]) #[false, false, false, false, false, false, false, false] (by kernel_rfl) rfl rfl ⟨(blk_cell BK375.out 0).trans rfl, (blk_cell BK375.out 1).trans rfl, (blk_cell BK375.out 2).trans rfl, ((HB.out.cell (World.block_lt_of_cell? w _ hw376_0)).trans hw376_0)⟩ (fun hHeld => ?_); refine with_tabW cuspref05_Total.tab5 cuspref05_Total.bits5 (fun HT_ HW_ => ?_)
     generalize wr.drew = w10 at HO_376001 BK374 BK375 HB hx376_0 hHeld ⊢
     refine pure_ (i := 1) (N := some 13) (v := ?_) (a' := ?_) #[false, true, false, false, false, false, false, false] rfl rfl (any_of HT_.out (by kernel_rfl)) (fun _ _ _ h => h) (Or.inl ⟨by rfl, ?_⟩) ?_ ?_
     rotate_left
     ·intro w'
      go_simp
      with_reducible rfl
     rotate_left
     ·simp only [Act.put, List.setIfInBounds_toArray, List.set_cons_zero, List.set_cons_succ, i64_w, i32_w]
      rfl
     refine pure_ (i := 2) (N := some 14) (v := ?_) (a' := ?_) #[false, true, true, false, false, false, false, false] rfl rfl (any_of HT_.out (by kernel_rfl)) (fun _ _ _ h => h) (Or.inl ⟨by rfl, ?_⟩) ?_ ?_
     rotate_left
     ·intro w'
      go_simp
      with_reducible rfl
     rotate_left
     ·simp only [Act.put, List.setIfInBounds_toArray, List.set_cons_zero, List.set_cons_succ, i64_w, i32_w]
      rfl
     refine pure_ (i := 3) (N := some 15) (v := ?_) (a' := ?_) #[false, true, true, true, false, false, false, false] rfl rfl (any_of HT_.out (by kernel_rfl)) (fun _ _ _ h => h) (Or.inl ⟨by rfl, ?_⟩) ?_ ?_
     rotate_left
     ·intro w'
      go_simp
      with_reducible rfl
     rotate_left
     ·simp only [Act.put, List.setIfInBounds_toArray, List.set_cons_zero, List.set_cons_succ, i64_w, i32_w]
      rfl
     refine take_ (i := 0) (N := some 12) (v := ?_) (a' := ?_) #[true, true, true, true, false, false, false, false] rfl rfl (take_ofW HT_.out HW_.out (by kernel_rfl)) (fun _ _ _ h => h) (Or.inl ⟨by rfl, ?_⟩) hHeld ?_ ?_
     rotate_left
     ·rintro w' ⟨s0, s1, s2, s3⟩
      go_simp
      with_reducible rfl
     rotate_left
     ·simp only [Act.put, List.setIfInBounds_toArray, List.set_cons_zero, List.set_cons_succ, i64_w, i32_w]
      rfl
     refine take_ (i := 4) (N := some 16) (v := ?_) (a' := ?_) #[true, true, true, true, true, false, false, false] rfl rfl (take_ofW HT_.out HW_.out (by kernel_rfl)) (fun _ _ _ h => h) (Or.inl ⟨by rfl, ?_⟩) hHeld ?_ ?_
     rotate_left
     ·rintro w' ⟨s0, s1, s2, s3⟩
      go_simp
      with_reducible rfl
     rotate_left
     ·simp only [Act.put, List.setIfInBounds_toArray, List.set_cons_zero, List.set_cons_succ, i64_w, i32_w]
      rfl
     refine one_ (i := 5) (N := some 17) #[true, true, true, true, true, true, false, false] rfl rfl (one_of HT_.out (by kernel_rfl)) (by decide) (fun K hK => ?_)
     refine goes_ Tryz.func26 (by kernel_rfl) rfl #[.float .f64 (rdOf (0 : Nat) l0 x4_1)] (by rfl) rfl rfl eqA ?_
     with_reducible refine (cuspref02_Float.calls k1 (rdOf (0 : Nat) l0 x4_1) t377 t378 t381 _ A8.out).mono ?_
     rintro e w11 ⟨v379, rfl, ho0, hb⟩
     refine ⟨_, rfl, ?_⟩
     have n0_ := asd (Kd.R_elder' (rUp HO_376001.out) (Kd.R_base ho0) hb)
     have n1_ := asd (Kd.R_lower (Kd.R_new' ho0 (Kd.R_lt (rUp HO_376001.out))) (below_size hbs))
     have n2_ := asd (blk_below (g := gb374) (o := .cells #[.bool false, .slice none 0 0, .int .i64 0] 41 (0, 0)) (blkU BK374.out) hb)
     have n3_ := asd (blk_below (g := gb375) (o := .cells #[.bool x376000_1, u376001, .int .i64 x376002_1] 41 (0, 0)) (blkU BK375.out) hb)
     have n4_ := asd (below_step hbs hb)
     clear HO_376001
     clear BK374
     clear BK375
     clear HB
     have HO_376001 := n0_
     have HO380 := n1_
     have BK374 := n2_
     have BK375 := n3_
     have HB := n4_
     clear n0_ n1_ n2_ n3_ n4_
     (try clear hb)
     (try clear hb2)
     (try clear hk)
     (try clear hi)
     (try clear ho0)
     obtain ⟨Ao12, co12, eo12⟩ := Kd.R_slice HO_376001.out
     (first | subst eo12 | (injection eo12 with f1_ f2_ f3_; have f4_ := f1_.symm; have f5_ := f3_.symm; clear f1_ f2_ f3_; subst f4_; subst f5_))
     obtain ⟨Ao13, co13, eo13⟩ := Kd.R_slice HO380.out
     (first | subst eo13 | (injection eo13 with f1_ f2_ f3_; have f4_ := f1_.symm; have f5_ := f3_.symm; clear f1_ f2_ f3_; subst f4_; subst f5_))
     refine hK.out _ _ ⟨(blk_cell BK375.out 0).trans rfl, (blk_cell BK375.out 1).trans rfl, (blk_cell BK375.out 2).trans rfl, ((HB.out.cell (World.block_lt_of_cell? w _ hw376_0)).trans hw376_0)⟩ (fun hHeld => ?_)
     clear hK K
     refine norm_ (a' := ?_) ?_ ?_
     rotate_left
     ·show Act.put _ (some 17) _ = _
      simp only [Act.put, List.setIfInBounds_toArray, List.set_cons_zero, List.set_cons_succ, i64_w, i32_w]
      rfl
     refine one_ (i := 6) (N := some 18) #[true, true, true, true, true, true, true, false] rfl rfl (one_of HT_.out (by kernel_rfl)) (by decide) (fun K hK => ?_)
     refine goes_ Tryz.func25 (by kernel_rfl) rfl #[.agg #[.bool x376000_1, .slice Ao12 x376001_1.length co12, .int .i64 x376002_1], .agg #[.bool t377, .slice Ao13 t378.length co13, .int .i64 t381]] (by rfl) rfl rfl eqA ?_
     with_reducible refine (cuspref02_Plus.calls x376000_1 _ _ x376001_1 x376002_1 t377 _ _ t378 t381 t382 t383 t386 _ ?side1 ?side2 ?side3 ?side4 A9.out).mono ?_
     (case side1 => repeat (first | exact (Kd.R_reads' HO_376001.out).2.2 | (with_reducible refine Kd.C_alloc ?_ _) | (with_reducible refine Kd.C_drewN ?_ _) | (with_reducible refine Kd.C_drew ?_)))
     (case side2 => exact (Kd.R_reads' HO_376001.out).2.1)
     (case side3 => repeat (first | exact (Kd.R_reads' HO380.out).2.2 | (with_reducible refine Kd.C_alloc ?_ _) | (with_reducible refine Kd.C_drewN ?_ _) | (with_reducible refine Kd.C_drew ?_)))
     (case side4 => exact (Kd.R_reads' HO380.out).2.1)
     rintro e w14 ⟨v384, rfl, ho0, hb⟩
     refine ⟨_, rfl, ?_⟩
     have n0_ := asd (Kd.R_elder' (rUp HO_376001.out) (Kd.R_base ho0) hb)
     have n1_ := asd (Kd.R_elder' (rUp HO380.out) (Kd.R_base ho0) hb)
     have n2_ := asd (Kd.R_lower (Kd.R_new' (Kd.R_new' ho0 (Kd.R_lt (rUp HO_376001.out))) (Kd.R_lt (rUp HO380.out))) (below_size hbs))
     have n3_ := asd (blk_below (g := gb374) (o := .cells #[.bool false, .slice none 0 0, .int .i64 0] 41 (0, 0)) (blkU BK374.out) hb)
     have n4_ := asd (blk_below (g := gb375) (o := .cells #[.bool x376000_1, .slice Ao12 x376001_1.length co12, .int .i64 x376002_1] 41 (0, 0)) (blkU BK375.out) hb)
     have n5_ := asd (below_step hbs hb)
     clear HO_376001
     clear HO380
     clear BK374
     clear BK375
     clear HB
     have HO_376001 := n0_
     have HO380 := n1_
     have HO385 := n2_
     have BK374 := n3_
     have BK375 := n4_
     have HB := n5_
     clear n0_ n1_ n2_ n3_ n4_ n5_
     (try clear hb)
     (try clear hb2)
     (try clear hk)
     (try clear hi)
     (try clear ho0)
     obtain ⟨Ao16, co16, eo16⟩ := Kd.R_slice HO385.out
     (first | subst eo16 | (injection eo16 with f1_ f2_ f3_; have f4_ := f1_.symm; have f5_ := f3_.symm; clear f1_ f2_ f3_; subst f4_; subst f5_))
     refine hK.out _ _ ⟨(blk_cell BK375.out 0).trans rfl, (blk_cell BK375.out 1).trans rfl, (blk_cell BK375.out 2).trans rfl, ((HB.out.cell (World.block_lt_of_cell? w _ hw376_0)).trans hw376_0)⟩ (fun hHeld => ?_)
     clear hK K
     refine norm_ (a' := ?_) ?_ ?_
     rotate_left
     ·show Act.put _ (some 18) _ = _
      simp only [Act.put, List.setIfInBounds_toArray, List.set_cons_zero, List.set_cons_succ, i64_w, i32_w]
      rfl
     refine last_ (i := 7) (N := none) #[true, true, true, true, true, true, true, true] rfl rfl (one_of HT_.out (by kernel_rfl)) (by decide) (fun K hK => ?_)
     have hs15 : w14.cell? ⟨gb375, 0, none⟩ = some (.bool x376000_1) := (blk_cell BK375.out 0).trans rfl
     have hfs15 := blk_frozen BK375.out 0
     have hns15_0 := NB374_375.out
     have hms15_0 := NB375_374.out
     have hs17 : w14.cell? ⟨gb375, 1, none⟩ = some (.slice Ao12 x376001_1.length co12) := (blk_cell BK375.out 1).trans rfl
     have hfs17 := blk_frozen BK375.out 1
     have hns17_0 := NB374_375.out
     have hms17_0 := NB375_374.out
     have hs18 : w14.cell? ⟨gb375, 2, none⟩ = some (.int .i64 x376002_1) := (blk_cell BK375.out 2).trans rfl
     have hfs18 := blk_frozen BK375.out 2
     have hns18_0 := NB374_375.out
     have hms18_0 := NB375_374.out
     refine skip_ (w1 := ?_) (by rfl) rfl ?_ ?_
     rotate_left
     ·go_simp
      rfl
     refine hK.out _ _ ?_
     clear hK K
     refine done_ (done_of HT_.out (by kernel_rfl)) ?_
     try go_wp2
     go_roundg k1
     case measure => have := HK1.out; omega
     case rel => exact ⟨(wrap64 (x4_1 + 1)), (t382), (t383), (t386), (.slice Ao16 t383.length co16), eqB, H', ⟨by have := HK1.out; omega⟩, ⟨by (with_reducible repeat (first | apply Kd.R_alloc | apply Kd.R_drewN | apply Kd.R_drew)); exact Kd.R_mono (Kd.R_far (p := ⟨gb375, 2, none⟩) (Kd.R_far (p := ⟨gb375, 1, none⟩) (Kd.R_far (p := ⟨gb375, 0, none⟩) (Kd.R_types HO385.out BK375.out (by decide)) (fun _ hk => hk.2) (.bool t382)) (fun _ hk => hk.2) (.slice Ao16 t383.length co16)) (fun _ hk => hk.2) (.int .i64 t386)) (fun _ hk => trivial)⟩, ⟨by (with_reducible repeat (first | refine blk_drewN ?_ _ | refine blk_drew ?_ | refine blk_alloc ?_ _)); refine blk_far ?_ NB374_375.out _; (with_reducible repeat (first | refine blk_drewN ?_ _ | refine blk_drew ?_ | refine blk_alloc ?_ _)); refine blk_far ?_ NB374_375.out _; (with_reducible repeat (first | refine blk_drewN ?_ _ | refine blk_drew ?_ | refine blk_alloc ?_ _)); refine blk_far ?_ NB374_375.out _; (with_reducible repeat (first | refine blk_drewN ?_ _ | refine blk_drew ?_ | refine blk_alloc ?_ _)); exact BK374.out⟩, ⟨by (with_reducible repeat (first | refine blk_drewN ?_ _ | refine blk_drew ?_ | refine blk_alloc ?_ _)); refine blk_put (cs := #[.bool t382, .slice Ao16 t383.length co16, .int .i64 x376002_1]) ?_ 2 _ rfl; (with_reducible repeat (first | refine blk_drewN ?_ _ | refine blk_drew ?_ | refine blk_alloc ?_ _)); refine blk_put (cs := #[.bool t382, .slice Ao12 x376001_1.length co12, .int .i64 x376002_1]) ?_ 1 _ rfl; (with_reducible repeat (first | refine blk_drewN ?_ _ | refine blk_drew ?_ | refine blk_alloc ?_ _)); refine blk_put (cs := #[.bool x376000_1, .slice Ao12 x376001_1.length co12, .int .i64 x376002_1]) ?_ 0 _ rfl; (with_reducible repeat (first | refine blk_drewN ?_ _ | refine blk_drew ?_ | refine blk_alloc ?_ _)); exact BK375.out⟩, ⟨hbs⟩⟩
    ·rw [if_neg c7] at H
     exact absurd H (by simp)
   ·rw [if_neg c6] at H
    have c6b0 := decide_eq_false c6
    clear c6
    simp only [Option.some.injEq, Prod.mk.injEq] at H
    obtain ⟨rfl, rfl, rfl⟩ := H
    have hnb19 := NB375_374.out
    have hnc19 := NB374_375.out
    obtain ⟨hcz20_0, hcz20_1, hcz20_2, hfz20_0, hfz20_1, hfz20_2⟩ := cz3 BK375.out
    obtain ⟨hcz21_0, hcz21_1, hcz21_2, hfz21_0, hfz21_1, hfz21_2⟩ := cz3 BK374.out
    obtain ⟨Ao22, co22, eo22⟩ := Kd.R_slice HO_376001.out
    subst eo22
    go_wp2
    refine bodyPost_ret (results_cell_row rfl _ _ gb374 41 #[.bool x376000_1, .slice Ao22 x376001_1.length co22, .int .i64 x376002_1] (0, 0) _ rfl (by (with_reducible repeat (first | refine blk_drewN ?_ _ | refine blk_drew ?_ | refine blk_alloc ?_ _)); refine blk_put (cs := #[.bool x376000_1, .slice Ao22 x376001_1.length co22, .int .i64 0]) ?_ 2 _ rfl; (with_reducible repeat (first | refine blk_drewN ?_ _ | refine blk_drew ?_ | refine blk_alloc ?_ _)); refine blk_put (cs := #[.bool x376000_1, .slice none 0 0, .int .i64 0]) ?_ 1 _ rfl; (with_reducible repeat (first | refine blk_drewN ?_ _ | refine blk_drew ?_ | refine blk_alloc ?_ _)); refine blk_put (cs := #[.bool false, .slice none 0 0, .int .i64 0]) ?_ 0 _ rfl; (with_reducible repeat (first | refine blk_drewN ?_ _ | refine blk_drew ?_ | refine blk_alloc ?_ _)); exact BK374.out) Tryz.underlying41 rfl (by kernel_rfl)) rfl ?_
    exact ⟨_, eqC, by (with_reducible repeat (first | apply Kd.R_alloc | apply Kd.R_drewN | apply Kd.R_drew)); exact Kd.R_mono (Kd.R_far (p := ⟨gb374, 2, none⟩) (Kd.R_far (p := ⟨gb374, 1, none⟩) (Kd.R_far (p := ⟨gb374, 0, none⟩) (Kd.R_types HO_376001.out BK374.out (by decide)) (fun _ hk => hk.2) (.bool x376000_1)) (fun _ hk => hk.2) (.slice Ao22 x376001_1.length co22)) (fun _ hk => hk.2) (.int .i64 x376002_1)) (fun _ hk => trivial), hbs⟩
def cuspref01_Of.f (a0 : Int) : Option (Nat) := some ((a0 : Int).toNat)
def cuspref01_Nought.f (a0 : Bool) : Option (Nat) := if a0 = true then ((cuspref01_Of.f 9223372036854775808).bind fun t387 => (some t387)) else ((cuspref01_Of.f 0).bind fun t388 => (some t388))
def cuspref05_Exact.l0 : Nat → List Nat → Int → Bool → Int → Option (Nat × Int)
 | 0, _, _, _, _ => none
 | k + 1, x0, x1, x7, x8 => if x8 < (x0.length : Int) then (if x7 = true then (if 0 ≤ x8 then ((cuspref01_IsZero.f (rdOf (0 : Nat) x0 x8)).bind fun t392 => (if t392 = true then ((cuspref01_Neg.f (rdOf (0 : Nat) x0 x8)).bind fun t394 => (cuspref05_Exact.l0 k x0 x1 t394 (wrap64 (x8 + 1)))) else (cuspref05_Exact.l0 k x0 x1 false (wrap64 (x8 + 1))))) else (none)) else (cuspref05_Exact.l0 k x0 x1 false (wrap64 (x8 + 1)))) else ((cuspref05_Total.f k x0).bind fun bt395 => ((cuspref01_Nought.f x7).bind fun t400 => ((cuspref03_R.f bt395.1 bt395.2.1 bt395.2.2 x1 t400).bind fun t401 => (some (t401, 0)))))
def cuspref05_Exact.f (k : Nat) (l0 : List Nat) (a1 : Int) : Option (Nat × Int) := (cuspref03_Valid.f a1).bind fun t389 => (if t389 = 0 then ((cuspref05_Fault.f k l0).bind fun t390 => (if t390 = 0 then (cuspref05_Exact.l0 k l0 a1 (decide ((l0.length : Int) > 0)) 0) else (some ((0 : Nat), t390)))) else (some ((0 : Nat), 1)))
def cusplaw05_SumsExact.f (k : Nat) (l0 : List Nat) (a1 : Int) : Option (Bool) := (sums_Exact.f l0 a1).bind fun bt402 => ((cuspref05_Exact.f k l0 a1).bind fun bt404 => ((cusplaw05_same.f bt402.1 bt404.1).bind fun t406 => (if t406 = true then (if bt402.2 = bt404.2 then ((cusplaw05_sure.f).bind fun t407 => (some t407)) else (some false)) else (some false))))
end Go.Proofs.YthmeocigliephaaGreatDoor.PSu
end
section
namespace Go.Proofs.YthmeocigliephaaGreatDoor.Big
open Go.Proofs.YthmeocigliephaaGreatDoor.PSu Go.Proofs.YthmeocigliephaaGreatDoor.Plain
theorem sgn_div {b : Nat} (h : b < 18446744073709551616) : (((b : Int) / 9223372036854775808) == 1) = sgn b := by
  unfold sgn
  by_cases h1 : 9223372036854775808 ≤ b
  · rw [decide_eq_true h1]; simp; omega
  · rw [decide_eq_false h1]; simp; omega
def word2 (m : Nat) : List Int := [((m : Nat) : Int) % 4294967296, (((m : Nat) : Int) / 4294967296) % 4294967296]
theorem word2_val {m : Nat} (h : m < 18446744073709551616) : val (word2 m) = m := by unfold word2; simp [val]; omega
theorem word2_dg (m : Nat) : Dg (word2 m) := Dg.cons (by omega) (by omega) (Dg.one (by omega) (by omega))
theorem rfloat_eq {b : Nat} (h : Fin64 b) (k : Nat) : cuspref02_Float.f k b = (cuspref02_norm.f k (sgn b) (word2 (manti b)) (expoV b)).bind fun bt => some (bt.1, bt.2.1, bt.2.2) := by
  have hx := expo_le h
  unfold cuspref02_Float.f
  rw [bits_frac b h.1, bits_expo b h.1, bits_one b, sgn_div h.1, w64_of (by omega) (by omega)]
  by_cases h0 : expo b = 0
  · have hm : manti b = frac b := by unfold manti; rw [if_pos h0]
    have he : expoV b = 1 - 1075 := by unfold expoV; rw [if_pos h0]
    rw [if_pos (by omega), hm, he]
    rfl
  · have hm : manti b = frac b + 4503599627370496 := by unfold manti; rw [if_neg h0]
    have he : expoV b = (expo b : Int) - 1075 := by unfold expoV; rw [if_neg h0]
    rw [if_neg (by omega), w64_of (x := (expo b : Int) - 1075) (by omega) (by omega), ← he, hm]
    rfl
theorem rfloat_law {b : Nat} (h : Fin64 b) : Ev (fun k => cuspref02_Float.f k b) (canN (flz b) (-1074)) := by
  have hm := manti_lt b
  have he := expoV_range h
  have hn := rnorm_law (sgn b) (word2 (manti b)) (expoV b) (word2_dg _) (by simp [word2]) (by omega) (by omega)
  rw [word2_val (by omega), show (if sgn b = true then -(manti b : Int) else (manti b : Int)) = floV b from rfl, can_flo h] at hn
  exact Ev.congr (fun k => rfloat_eq h k) (Ev.bind hn (Ev.now _))
theorem rtotal_ev (l : List Nat) (hf : ∀ b ∈ l, Fin64 b) (hl : l.length ≤ 65536) : ∀ d i : Nat, i + d = l.length →
    Ev (fun k => cuspref05_Total.l0 k l (i : Int) (canN (sumZ (l.take i)) (-1074)).1 (canN (sumZ (l.take i)) (-1074)).2.1 (canN (sumZ (l.take i)) (-1074)).2.2) (canN (sumZ l) (-1074)) := by
  intro d
  induction d with
  | zero =>
    intro i hi
    obtain rfl : i = l.length := by omega
    rw [List.take_length]
    refine Ev.step (f := fun _ => some (canN (sumZ l) (-1074))) (fun k => ?_) (Ev.now _)
    rw [cuspref05_Total.l0, if_neg (by omega)]
  | succ d ih =>
    intro i hi
    have hil : i < l.length := by omega
    have hb := hf l[i] (List.getElem_mem hil)
    have ht : ∀ b ∈ l.take i, Fin64 b := fun b hb => hf b (List.mem_of_mem_take hb)
    have e1 : sumZ (l.take i) + flz l[i] = sumZ (l.take (i + 1)) := by
      rw [List.take_succ_eq_append_getElem hil, sumZ_append]; simp [sumZ]
    have b1 := sumZ_bl (l.take i) ht (by rw [List.length_take]; omega)
    have b2 : bl (flz l[i]).natAbs ≤ 2098 := bl_le.2 (flz_lt hb)
    have h := ih (i + 1) (by omega)
    rw [← e1] at h
    refine Ev.step (fun k => ?_) (Ev.bind (f := fun k bt => (cuspref02_Plus.f (canN (sumZ (l.take i)) (-1074)).1 (canN (sumZ (l.take i)) (-1074)).2.1 (canN (sumZ (l.take i)) (-1074)).2.2 bt.1 bt.2.1 bt.2.2).bind fun bt => cuspref05_Total.l0 k l ((i + 1 : Nat) : Int) bt.1 bt.2.1 bt.2.2) (rfloat_law hb) (Ev.bind (f := fun k bt => cuspref05_Total.l0 k l ((i + 1 : Nat) : Int) bt.1 bt.2.1 bt.2.2) (Ev.congr (fun k => rplus_can (by omega) (by omega)) (Ev.now (canN (sumZ (l.take i) + flz l[i]) (-1074)))) h))
    rw [cuspref05_Total.l0, if_pos (by omega), if_pos (by omega), rdOf_get l i hil, w64_succ (by omega)]
theorem rtotal_law (l : List Nat) (hf : ∀ b ∈ l, Fin64 b) (hl : l.length ≤ 65536) : Ev (fun k => cuspref05_Total.f k l) (canN (sumZ l) (-1074)) := by
  have h := rtotal_ev l hf hl l.length 0 (by omega)
  have h2 : Ev (fun k => cuspref05_Total.l0 k l 0 false [] 0) (canN (sumZ l) (-1074)) := by simpa [sumZ, canN_zero] using h
  exact h2
theorem mag_law {b : Nat} (h : b < 18446744073709551616) : cuspref01_mag.f b = some ((b % 9223372036854775808 : Nat) : Int) := by
  unfold cuspref01_mag.f cuspref01_Bits.f
  rw [Option.bind_some, bits_abs b h]
theorem risnan_law {b : Nat} (h : b < 18446744073709551616) : cuspref01_IsNaN.f b = some (nanB b) := by
  unfold cuspref01_IsNaN.f
  rw [mag_law h, Option.bind_some, nan_law h]
  congr 1
  rw [decide_eq_decide]; omega
theorem risinf_law {b : Nat} (h : b < 18446744073709551616) : cuspref01_IsInf.f b = some (infB? b) := by
  unfold cuspref01_IsInf.f
  rw [mag_law h, Option.bind_some, inf_law h]
  congr 1
  by_cases hb : b % 9223372036854775808 = 9218868437227405312
  · rw [hb]; rfl
  · rw [beq_eq_false_iff_ne.2 hb, beq_eq_false_iff_ne]; omega
theorem same_law (a : Nat) : cusplaw05_same.f a a = some true := by
  unfold cusplaw05_same.f cuspref01_Same.f cuspref01_Bits.f
  rw [Option.bind_some, Option.bind_some, if_pos rfl]; rfl
theorem rfault_ev (l : List Nat) (hw : ∀ b ∈ l, b < 18446744073709551616) (hl : l.length ≤ 65536) : ∀ (d i : Nat) (x : Int), i + d = l.length → (∀ b ∈ l.take i, nanB b = false) → x = (if (l.take i).any infB? = true then 5 else 0) →
    Ev (fun k => cuspref05_Fault.l0 k l x (i : Int)) (if l.any nanB = true then (4 : Int) else if l.any infB? = true then 5 else 0) := by
  intro d
  induction d with
  | zero =>
    intro i x hi hn hx
    obtain rfl : i = l.length := by omega
    rw [List.take_length] at hn hx
    have : l.any nanB = false := by
      rw [List.any_eq_false]; intro b hb; rw [hn b hb]; simp
    rw [this, if_neg (by simp), ← hx]
    refine Ev.step (f := fun _ => some x) (fun k => ?_) (Ev.now _)
    rw [cuspref05_Fault.l0, if_neg (by omega)]
  | succ d ih =>
    intro i x hi hn hx
    have hil : i < l.length := by omega
    have hb := hw l[i] (List.getElem_mem hil)
    by_cases hna : nanB l[i] = true
    · have : l.any nanB = true := List.any_eq_true.2 ⟨_, List.getElem_mem hil, hna⟩
      rw [this, if_pos rfl]
      refine Ev.step (f := fun _ => some 4) (fun k => ?_) (Ev.now _)
      rw [cuspref05_Fault.l0, if_pos (by omega), if_pos (by omega), rdOf_get l i hil, risnan_law hb, Option.bind_some, if_pos hna]
    · have hn2 : ∀ b ∈ l.take (i + 1), nanB b = false := by
        intro b hb
        rw [List.take_succ_eq_append_getElem hil, List.mem_append] at hb
        rcases hb with hb | hb
        · exact hn b hb
        · simp at hb; subst hb; simpa using hna
      have hx2 : ∀ y, y = (if infB? l[i] = true then 5 else x) → y = (if (l.take (i + 1)).any infB? = true then 5 else 0) := by
        intro y hy
        rw [List.take_succ_eq_append_getElem hil, List.any_append, hy, hx]
        cases h1 : infB? l[i] <;> cases h2 : (l.take i).any infB? <;> simp [h1]
      refine Ev.step (fun k => ?_) (ih (i + 1) _ (by omega) hn2 (hx2 _ rfl))
      rw [cuspref05_Fault.l0, if_pos (by omega), if_pos (by omega), rdOf_get l i hil, risnan_law hb, Option.bind_some, if_neg hna, risinf_law hb, Option.bind_some, w64_succ (by omega)]
      split <;> rfl
theorem rfault_law (l : List Nat) (hw : ∀ b ∈ l, b < 18446744073709551616) : Ev (fun k => cuspref05_Fault.f k l) (faultL l) := by
  unfold cuspref05_Fault.f faultL
  by_cases hl : 65536 < l.length
  · rw [if_pos hl]; exact Ev.congr (fun k => if_pos (by omega)) (Ev.now _)
  · rw [if_neg hl]
    exact Ev.congr (fun k => if_neg (by omega)) (rfault_ev l hw (by omega) l.length 0 0 (by omega) (by simp) (by simp))
end Go.Proofs.YthmeocigliephaaGreatDoor.Big
end
section
namespace Go.Proofs.YthmeocigliephaaGreatDoor.PSv
attribute [local go_sem] f64bits_run f64from_run run_float_some max2_int min2_int max_two min_two max_three min_three max_four min_four
def errW : Option Int → Value
 | none => .nilIface
 | some c => .iface 0 (.int .i64 c)
theorem errW_none : errW none = .nilIface := rfl
theorem errW_some (c : Int) : errW (some c) = .iface 0 (.int .i64 c) := rfl
end Go.Proofs.YthmeocigliephaaGreatDoor.PSv
end
section
namespace Go.Proofs.YthmeocigliephaaGreatDoor.PSv
open Go.Proofs.YthmeocigliephaaGreatDoor.PSu Go.RowKit Go.Proofs.YthmeocigliephaaGreatDoorW.PrintWords Go.Proofs.YthmeocigliephaaGreatDoorW.PrintLast Go.Proofs.YthmeocigliephaaGreatDoorW.PrintMore
attribute [local go_sem] f64bits_run f64from_run run_float_some max2_int min2_int max_two min_two max_three min_three max_four min_four
def cuspref01_Finite.f (a0 : Nat) : Option (Bool) := (cuspref01_mag.f a0).bind fun t101 => (some (decide (t101 < 9218868437227405312)))
theorem cuspref01_Finite.calls (a0 : Nat) (r : Bool) (w : World) (h : cuspref01_Finite.f a0 = some r) :
  Calls Tryz.prog 24 #[.float .f64 a0] w fun e w' => e = .returned (.bool r) ∧ Drawn0 w w' := by
 have H := h
 clear h
 unfold cuspref01_Finite.f at H
 replace H := Option.bind_eq_some_iff.mp H
 obtain ⟨t101, A20, H⟩ := H
 have A2 := asd A20
 clear A20
 obtain rfl := Option.some.inj H
 go_enter Tryz.func24, Tryz.ntmps24
 go_wp2_with (first | ((with_reducible refine gate_callee (f := 62) rfl ?_); refine goesL_ (some 4) rfl rfl Tryz.func62 (by kernel_rfl) rfl #[.float .f64 a0] rfl eqA ?_; (with_reducible refine (cuspref01_mag.calls a0 t101 _ A2.out).mono ?_); rintro e w' ⟨rfl, ⟨nd, rfl⟩⟩; refine ⟨_, rfl, ?_⟩))
 go_ret
 exact ⟨eqB, dn0⟩
end Go.Proofs.YthmeocigliephaaGreatDoor.PSv
end
section
namespace Go.Proofs.YthmeocigliephaaGreatDoor.PSv
open Go.Proofs.YthmeocigliephaaGreatDoor.PSu Go.RowKit Go.Proofs.YthmeocigliephaaGreatDoorW.PrintWords Go.Proofs.YthmeocigliephaaGreatDoorW.PrintLast Go.Proofs.YthmeocigliephaaGreatDoorW.PrintMore
attribute [local go_sem] f64bits_run f64from_run run_float_some max2_int min2_int max_two min_two max_three min_three max_four min_four
def cuspref02_Minus.f (a0_0 : Bool) (l0_1 : List Int) (a0_2 : Int) : Option (Bool × List Int × Int) := if (l0_1.length : Int) = 0 then (some (false, ([] : List Int), 0)) else (some (!a0_0, l0_1, a0_2))
theorem cuspref02_Minus.calls (a0_0 : Bool) (P0_1_ : Nat → Prop) (u9000_ : Value) (l0_1 : List Int) (a0_2 : Int) (r1 : Bool) (r2 : List Int) (r3 : Int) (w0 w : World) (hB : Below w0.heap.size w0 w) (ho0_1 : Kd.R (Kd.int .u32) 83 w w0.heap.size P0_1_ u9000_ l0_1) (h : cuspref02_Minus.f a0_0 l0_1 a0_2 = some (r1, r2, r3)) :
  Calls Tryz.prog 77 #[.agg #[.bool a0_0, u9000_, .int .i64 a0_2]] w fun e w' => ∃ v1_ : Value, e = .returned (.agg #[.bool r1, v1_, .int .i64 r3]) ∧ Kd.R (Kd.int .u32) 83 w' w0.heap.size (fun k_ => (P0_1_ k_ ∨ w.heap.size ≤ k_)) v1_ r2 ∧ Below w0.heap.size w0 w' ∧ Kept w w' (fun k_ => P0_1_ k_) := by
 have hu41 := Tryz.underlying41
 have HO0_1 := asd (show Kd.R (Kd.int .u32) 83 w w0.heap.size (fun k_ => (P0_1_ k_ ∨ w.heap.size ≤ k_)) u9000_ l0_1 from Kd.R_mono ho0_1 (fun k_ hk => (.inl hk)))
 have HK := asd (Kept.refl w (fun k_ => P0_1_ k_))
 have HW0 := asd hB.size
 have HB := asd hB
 clear hB
 have H := h
 clear h
 unfold cuspref02_Minus.f at H
 by_cases c2 : (l0_1.length : Int) = 0
 ·rw [if_pos c2] at H
  have c2b0 := beq_iff_eq.mpr c2
  have c2b1 := bne_eq_false_iff_eq.mpr c2
  clear c2
  simp only [Option.some.injEq, Prod.mk.injEq] at H
  obtain ⟨rfl, rfl, rfl⟩ := H
  obtain ⟨Ao3, co3, eo3⟩ := Kd.R_slice HO0_1.out
  subst eo3
  go_enter Tryz.func77, Tryz.ntmps77
  go_wp2_with (first | ((with_reducible refine gate_dst (N := 1) rfl ?_); refine box_event ?hg (N := 1) ?hd (cs := #[.bool a0_0, .slice Ao3 l0_1.length co3, .int .i64 a0_2]) (t := 41) ?hr ?_; (case hd => rfl); (case hg => rfl); (case hr => first | (go_simp; done) | (go_simp; rfl)); intro gb102 hg w4 hbox hb; have n0_ := asd (Kd.R_below (rUp HO0_1.out) hb); have n1_ := asd (Kept.below (S := (fun k_ => P0_1_ k_)) (by repeat (first | (with_reducible first | exact HK.out | apply Kept.alloc | apply Kept.drewN | apply Kept.drew) | exact HK.out)) hb); have n2_ := asd (below_step hbw hb); have n3_ := asd (hbox); have n4_ := asd ((by rw [hg]; exact (by first | exact HK.out.1 | exact (show Kept w _ (fun k_ => P0_1_ k_) from by repeat (first | (with_reducible first | exact HK.out | apply Kept.alloc | apply Kept.drewN | apply Kept.drew) | exact HK.out)).1) : w.heap.size ≤ gb102)); have n5_ := asd ((by rw [hg]; exact (below_size hbw) : w0.heap.size ≤ gb102)); clear HO0_1; clear HK; clear HB; have HO0_1 := n0_; have HK := n1_; have HB := n2_; have BK102 := n3_; have GW102 := n4_; have GE102 := n5_; clear n0_ n1_ n2_ n3_ n4_ n5_; clear hb hbox hg) | ((with_reducible refine gate_dst (N := 2) rfl ?_); refine box_event ?hg (N := 2) ?hd (cs := #[.bool false, .slice none 0 0, .int .i64 0]) (t := 41) ?hr ?_; (case hd => rfl); (case hg => rfl); (case hr => first | (go_simp; done) | (go_simp; rfl)); intro gb103 hg w5 hbox hb; have n0_ := asd (Kd.R_below (rUp HO0_1.out) hb); have n1_ := asd (blk_below (g := gb102) (o := .cells #[.bool a0_0, .slice Ao3 l0_1.length co3, .int .i64 a0_2] 41 (0, 0)) (blkU BK102.out) hb); have n2_ := asd (Kept.below (S := (fun k_ => P0_1_ k_)) (by repeat (first | (with_reducible first | exact HK.out | apply Kept.alloc | apply Kept.drewN | apply Kept.drew | refine Kept.setCell ?_ (.inr GW102.out) _) | exact HK.out)) hb); have n3_ := asd (below_step hbs hb); have n4_ := asd (hbox); have n5_ := asd ((by rw [hg]; exact (by first | exact HK.out.1 | exact (show Kept w _ (fun k_ => P0_1_ k_) from by repeat (first | (with_reducible first | exact HK.out | apply Kept.alloc | apply Kept.drewN | apply Kept.drew | refine Kept.setCell ?_ (.inr GW102.out) _) | exact HK.out)).1) : w.heap.size ≤ gb103)); have n6_ := asd ((by rw [hg]; exact (below_size hbs) : w0.heap.size ≤ gb103)); have n7_ := asd ((by rw [hg]; exact Nat.ne_of_lt (blk_lt (g := gb102) (o := .cells #[.bool a0_0, .slice Ao3 l0_1.length co3, .int .i64 a0_2] 41 (0, 0)) (blkU BK102.out)) : gb102 ≠ gb103)); have n8_ := asd ((by rw [hg]; exact Nat.ne_of_gt (blk_lt (g := gb102) (o := .cells #[.bool a0_0, .slice Ao3 l0_1.length co3, .int .i64 a0_2] 41 (0, 0)) (blkU BK102.out)) : gb103 ≠ gb102)); clear HO0_1; clear BK102; clear HK; clear HB; have HO0_1 := n0_; have BK102 := n1_; have HK := n2_; have HB := n3_; have BK103 := n4_; have GW103 := n5_; have GE103 := n6_; have NB102_103 := n7_; have NB103_102 := n8_; clear n0_ n1_ n2_ n3_ n4_ n5_ n6_ n7_ n8_; clear hb hbox hg; have hnb6 := NB102_103.out; have hnc6 := NB103_102.out; obtain ⟨hcz7_0, hcz7_1, hcz7_2, hfz7_0, hfz7_1, hfz7_2⟩ := cz3 BK102.out; obtain ⟨hcz8_0, hcz8_1, hcz8_2, hfz8_0, hfz8_1, hfz8_2⟩ := cz3 BK103.out))
  refine bodyPost_ret (results_cell_row rfl _ _ gb103 41 #[.bool false, .slice none 0 0, .int .i64 0] (0, 0) _ rfl (by (with_reducible repeat (first | refine blk_drewN ?_ _ | refine blk_drew ?_ | refine blk_alloc ?_ _)); refine blk_put (cs := #[.bool false, .slice none 0 0, .int .i64 0]) ?_ 2 _ rfl; (with_reducible repeat (first | refine blk_drewN ?_ _ | refine blk_drew ?_ | refine blk_alloc ?_ _)); refine blk_put (cs := #[.bool false, .slice none 0 0, .int .i64 0]) ?_ 1 _ rfl; (with_reducible repeat (first | refine blk_drewN ?_ _ | refine blk_drew ?_ | refine blk_alloc ?_ _)); refine blk_put (cs := #[.bool false, .slice none 0 0, .int .i64 0]) ?_ 0 _ rfl; (with_reducible repeat (first | refine blk_drewN ?_ _ | refine blk_drew ?_ | refine blk_alloc ?_ _)); exact BK103.out) Tryz.underlying41 rfl (by kernel_rfl)) rfl ?_
  exact ⟨_, eqC, by first | exact Kd.R_nil _ _ _ _ _ | exact Kd.N_nil _ _ _ _ _ | exact Kd.V_nil _ _ _ _ _ | exact Kd.Q_nil _ _ _ _ _ | exact Kd.S_nil _ _ _ _ _, hbs, by repeat (first | (with_reducible first | exact HK.out | apply Kept.alloc | apply Kept.drewN | apply Kept.drew | refine Kept.setCell ?_ (.inr GW102.out) _ | refine Kept.setCell ?_ (.inr GW103.out) _) | exact HK.out)⟩
 ·rw [if_neg c2] at H
  have c2b0 := beq_eq_false_iff_ne.mpr c2
  have c2b1 := bne_iff_ne.mpr c2
  have c2b2 : ¬ (l0_1 = []) := fun h_ => c2 (by rw [h_]; rfl)
  simp only [Option.some.injEq, Prod.mk.injEq] at H
  obtain ⟨rfl, rfl, rfl⟩ := H
  obtain ⟨Ao9, co9, eo9⟩ := Kd.R_slice HO0_1.out
  subst eo9
  go_enter Tryz.func77, Tryz.ntmps77
  go_wp2_with (first | ((with_reducible refine gate_dst (N := 1) rfl ?_); refine box_event ?hg (N := 1) ?hd (cs := #[.bool a0_0, .slice Ao9 l0_1.length co9, .int .i64 a0_2]) (t := 41) ?hr ?_; (case hd => rfl); (case hg => rfl); (case hr => first | (go_simp; done) | (go_simp; rfl)); intro gb102 hg w10 hbox hb; have n0_ := asd (Kd.R_below (rUp HO0_1.out) hb); have n1_ := asd (Kept.below (S := (fun k_ => P0_1_ k_)) (by repeat (first | (with_reducible first | exact HK.out | apply Kept.alloc | apply Kept.drewN | apply Kept.drew) | exact HK.out)) hb); have n2_ := asd (below_step hbw hb); have n3_ := asd (hbox); have n4_ := asd ((by rw [hg]; exact (by first | exact HK.out.1 | exact (show Kept w _ (fun k_ => P0_1_ k_) from by repeat (first | (with_reducible first | exact HK.out | apply Kept.alloc | apply Kept.drewN | apply Kept.drew) | exact HK.out)).1) : w.heap.size ≤ gb102)); have n5_ := asd ((by rw [hg]; exact (below_size hbw) : w0.heap.size ≤ gb102)); clear HO0_1; clear HK; clear HB; have HO0_1 := n0_; have HK := n1_; have HB := n2_; have BK102 := n3_; have GW102 := n4_; have GE102 := n5_; clear n0_ n1_ n2_ n3_ n4_ n5_; clear hb hbox hg) | ((with_reducible refine gate_dst (N := 2) rfl ?_); refine box_event ?hg (N := 2) ?hd (cs := #[.bool false, .slice none 0 0, .int .i64 0]) (t := 41) ?hr ?_; (case hd => rfl); (case hg => rfl); (case hr => first | (go_simp; done) | (go_simp; rfl)); intro gb103 hg w11 hbox hb; have n0_ := asd (Kd.R_below (rUp HO0_1.out) hb); have n1_ := asd (blk_below (g := gb102) (o := .cells #[.bool a0_0, .slice Ao9 l0_1.length co9, .int .i64 a0_2] 41 (0, 0)) (blkU BK102.out) hb); have n2_ := asd (Kept.below (S := (fun k_ => P0_1_ k_)) (by repeat (first | (with_reducible first | exact HK.out | apply Kept.alloc | apply Kept.drewN | apply Kept.drew | refine Kept.setCell ?_ (.inr GW102.out) _) | exact HK.out)) hb); have n3_ := asd (below_step hbs hb); have n4_ := asd (hbox); have n5_ := asd ((by rw [hg]; exact (by first | exact HK.out.1 | exact (show Kept w _ (fun k_ => P0_1_ k_) from by repeat (first | (with_reducible first | exact HK.out | apply Kept.alloc | apply Kept.drewN | apply Kept.drew | refine Kept.setCell ?_ (.inr GW102.out) _) | exact HK.out)).1) : w.heap.size ≤ gb103)); have n6_ := asd ((by rw [hg]; exact (below_size hbs) : w0.heap.size ≤ gb103)); have n7_ := asd ((by rw [hg]; exact Nat.ne_of_lt (blk_lt (g := gb102) (o := .cells #[.bool a0_0, .slice Ao9 l0_1.length co9, .int .i64 a0_2] 41 (0, 0)) (blkU BK102.out)) : gb102 ≠ gb103)); have n8_ := asd ((by rw [hg]; exact Nat.ne_of_gt (blk_lt (g := gb102) (o := .cells #[.bool a0_0, .slice Ao9 l0_1.length co9, .int .i64 a0_2] 41 (0, 0)) (blkU BK102.out)) : gb103 ≠ gb102)); clear HO0_1; clear BK102; clear HK; clear HB; have HO0_1 := n0_; have BK102 := n1_; have HK := n2_; have HB := n3_; have BK103 := n4_; have GW103 := n5_; have GE103 := n6_; have NB102_103 := n7_; have NB103_102 := n8_; clear n0_ n1_ n2_ n3_ n4_ n5_ n6_ n7_ n8_; clear hb hbox hg; have hnb12 := NB102_103.out; have hnc12 := NB103_102.out; obtain ⟨hcz13_0, hcz13_1, hcz13_2, hfz13_0, hfz13_1, hfz13_2⟩ := cz3 BK102.out; obtain ⟨hcz14_0, hcz14_1, hcz14_2, hfz14_0, hfz14_1, hfz14_2⟩ := cz3 BK103.out))
  refine bodyPost_ret (results_cell_row rfl _ _ gb103 41 #[.bool (!a0_0), .slice Ao9 l0_1.length co9, .int .i64 a0_2] (0, 0) _ rfl (by (with_reducible repeat (first | refine blk_drewN ?_ _ | refine blk_drew ?_ | refine blk_alloc ?_ _)); refine blk_put (cs := #[.bool (!a0_0), .slice Ao9 l0_1.length co9, .int .i64 0]) ?_ 2 _ rfl; (with_reducible repeat (first | refine blk_drewN ?_ _ | refine blk_drew ?_ | refine blk_alloc ?_ _)); refine blk_put (cs := #[.bool (!a0_0), .slice none 0 0, .int .i64 0]) ?_ 1 _ rfl; (with_reducible repeat (first | refine blk_drewN ?_ _ | refine blk_drew ?_ | refine blk_alloc ?_ _)); refine blk_put (cs := #[.bool false, .slice none 0 0, .int .i64 0]) ?_ 0 _ rfl; (with_reducible repeat (first | refine blk_drewN ?_ _ | refine blk_drew ?_ | refine blk_alloc ?_ _)); exact BK103.out) Tryz.underlying41 rfl (by kernel_rfl)) rfl ?_
  exact ⟨_, eqC, by (with_reducible repeat (first | apply Kd.R_alloc | apply Kd.R_drewN | apply Kd.R_drew)); exact Kd.R_mono (Kd.R_far (p := ⟨gb103, 2, none⟩) (Kd.R_far (p := ⟨gb103, 1, none⟩) (Kd.R_far (p := ⟨gb103, 0, none⟩) (Kd.R_types HO0_1.out BK103.out (by decide)) (fun _ hk => hk.2) (.bool (!a0_0))) (fun _ hk => hk.2) (.slice Ao9 l0_1.length co9)) (fun _ hk => hk.2) (.int .i64 a0_2)) (fun _ hk => hk.1), hbs, by repeat (first | (with_reducible first | exact HK.out | apply Kept.alloc | apply Kept.drewN | apply Kept.drew | refine Kept.setCell ?_ (.inr GW102.out) _ | refine Kept.setCell ?_ (.inr GW103.out) _) | exact HK.out)⟩
def cuspref02_Less.f (a0_0 : Bool) (l0_1 : List Int) (a0_2 : Int) (a1_0 : Bool) (l1_1 : List Int) (a1_2 : Int) : Option (Bool × List Int × Int) := (cuspref02_Minus.f a1_0 l1_1 a1_2).bind fun bt107 => ((cuspref02_Plus.f a0_0 l0_1 a0_2 bt107.1 bt107.2.1 bt107.2.2).bind fun bt112 => (some (bt112.1, bt112.2.1, bt112.2.2)))
theorem cuspref02_Less.calls (a0_0 : Bool) (A0_1 : Option Addr) (c0_1 : Nat) (l0_1 : List Int) (a0_2 : Int) (a1_0 : Bool) (P1_1_ : Nat → Prop) (u9000_ : Value) (l1_1 : List Int) (a1_2 : Int) (r1 : Bool) (r2 : List Int) (r3 : Int) (w0 w : World) (hB : Below w0.heap.size w0 w) (hr0_1 : ∀ W_, Kept w W_ (fun k_ => P1_1_ k_) → Kd.C (Kd.int .u32) W_ A0_1 l0_1.length l0_1) (hc0_1 : l0_1.length ≤ c0_1) (ho1_1 : Kd.R (Kd.int .u32) 83 w w0.heap.size P1_1_ u9000_ l1_1) (h : cuspref02_Less.f a0_0 l0_1 a0_2 a1_0 l1_1 a1_2 = some (r1, r2, r3)) :
  Calls Tryz.prog 31 #[.agg #[.bool a0_0, .slice A0_1 l0_1.length c0_1, .int .i64 a0_2], .agg #[.bool a1_0, u9000_, .int .i64 a1_2]] w fun e w' => ∃ v1_ : Value, e = .returned (.agg #[.bool r1, v1_, .int .i64 r3]) ∧ Kd.R (Kd.int .u32) 83 w' w0.heap.size (fun k_ => (P1_1_ k_ ∨ w.heap.size ≤ k_)) v1_ r2 ∧ Below w0.heap.size w0 w' ∧ Kept w w' (fun k_ => P1_1_ k_) := by
 have hu41 := Tryz.underlying41
 have HR0_1 := asd hr0_1
 have HC0_1 := asd hc0_1
 clear hr0_1 hc0_1
 have HO1_1 := asd (show Kd.R (Kd.int .u32) 83 w w0.heap.size (fun k_ => (P1_1_ k_ ∨ w.heap.size ≤ k_)) u9000_ l1_1 from Kd.R_mono ho1_1 (fun k_ hk => (.inl hk)))
 have HK := asd (Kept.refl w (fun k_ => P1_1_ k_))
 have HW0 := asd hB.size
 have HB := asd hB
 clear hB
 have H := h
 clear h
 unfold cuspref02_Less.f at H
 replace H := Option.bind_eq_some_iff.mp H
 obtain ⟨⟨t107, t108, t111⟩, A30, H⟩ := H
 replace H : ((cuspref02_Plus.f a0_0 l0_1 a0_2 t107 t108 t111).bind fun bt112 => (some (bt112.1, bt112.2.1, bt112.2.2))) = some (r1, r2, r3) := H
 have A3 := asd A30
 clear A30
 replace H := Option.bind_eq_some_iff.mp H
 obtain ⟨⟨t112, t113, t116⟩, A40, H⟩ := H
 replace H : (some (t112, t113, t116)) = some (r1, r2, r3) := H
 have A4 := asd A40
 clear A40
 simp only [Option.some.injEq, Prod.mk.injEq] at H
 obtain ⟨rfl, rfl, rfl⟩ := H
 go_enter Tryz.func31, Tryz.ntmps31
 try go_wp2_with (first | ((with_reducible refine gate_dst (N := 2) rfl ?_); refine box_event ?hg (N := 2) ?hd (cs := #[.bool a0_0, .slice A0_1 l0_1.length c0_1, .int .i64 a0_2]) (t := 41) ?hr ?_; (case hd => rfl); (case hg => rfl); (case hr => first | (go_simp; done) | (go_simp; rfl)); intro gb104 hg w5 hbox hb; have n0_ := asd (Kd.R_below (rUp HO1_1.out) hb); have n1_ := asd (Kept.below (S := (fun k_ => P1_1_ k_)) (by repeat (first | (with_reducible first | exact HK.out | apply Kept.alloc | apply Kept.drewN | apply Kept.drew) | exact HK.out)) hb); have n2_ := asd (below_step hbw hb); have n3_ := asd (hbox); have n4_ := asd ((by rw [hg]; exact (by first | exact HK.out.1 | exact (show Kept w _ (fun k_ => P1_1_ k_) from by repeat (first | (with_reducible first | exact HK.out | apply Kept.alloc | apply Kept.drewN | apply Kept.drew) | exact HK.out)).1) : w.heap.size ≤ gb104)); have n5_ := asd ((by rw [hg]; exact (below_size hbw) : w0.heap.size ≤ gb104)); clear HO1_1; clear HK; clear HB; have HO1_1 := n0_; have HK := n1_; have HB := n2_; have BK104 := n3_; have GW104 := n4_; have GE104 := n5_; clear n0_ n1_ n2_ n3_ n4_ n5_; clear hb hbox hg; obtain ⟨Ao6, co6, eo6⟩ := Kd.R_slice HO1_1.out; subst eo6) | ((with_reducible refine gate_dst (N := 3) rfl ?_); refine box_event ?hg (N := 3) ?hd (cs := #[.bool a1_0, .slice Ao6 l1_1.length co6, .int .i64 a1_2]) (t := 41) ?hr ?_; (case hd => rfl); (case hg => rfl); (case hr => first | (go_simp; done) | (go_simp; rfl)); intro gb105 hg w7 hbox hb; have n0_ := asd (Kd.R_below (rUp HO1_1.out) hb); have n1_ := asd (blk_below (g := gb104) (o := .cells #[.bool a0_0, .slice A0_1 l0_1.length c0_1, .int .i64 a0_2] 41 (0, 0)) (blkU BK104.out) hb); have n2_ := asd (Kept.below (S := (fun k_ => P1_1_ k_)) (by repeat (first | (with_reducible first | exact HK.out | apply Kept.alloc | apply Kept.drewN | apply Kept.drew | refine Kept.setCell ?_ (.inr GW104.out) _) | exact HK.out)) hb); have n3_ := asd (below_step hbs hb); have n4_ := asd (hbox); have n5_ := asd ((by rw [hg]; exact (by first | exact HK.out.1 | exact (show Kept w _ (fun k_ => P1_1_ k_) from by repeat (first | (with_reducible first | exact HK.out | apply Kept.alloc | apply Kept.drewN | apply Kept.drew | refine Kept.setCell ?_ (.inr GW104.out) _) | exact HK.out)).1) : w.heap.size ≤ gb105)); have n6_ := asd ((by rw [hg]; exact (below_size hbs) : w0.heap.size ≤ gb105)); have n7_ := asd ((by rw [hg]; exact Nat.ne_of_lt (blk_lt (g := gb104) (o := .cells #[.bool a0_0, .slice A0_1 l0_1.length c0_1, .int .i64 a0_2] 41 (0, 0)) (blkU BK104.out)) : gb104 ≠ gb105)); have n8_ := asd ((by rw [hg]; exact Nat.ne_of_gt (blk_lt (g := gb104) (o := .cells #[.bool a0_0, .slice A0_1 l0_1.length c0_1, .int .i64 a0_2] 41 (0, 0)) (blkU BK104.out)) : gb105 ≠ gb104)); clear HO1_1; clear BK104; clear HK; clear HB; have HO1_1 := n0_; have BK104 := n1_; have HK := n2_; have HB := n3_; have BK105 := n4_; have GW105 := n5_; have GE105 := n6_; have NB104_105 := n7_; have NB105_104 := n8_; clear n0_ n1_ n2_ n3_ n4_ n5_ n6_ n7_ n8_; clear hb hbox hg) | ((with_reducible refine gate_dst (N := 4) rfl ?_); refine box_event ?hg (N := 4) ?hd (cs := #[.bool false, .slice none 0 0, .int .i64 0]) (t := 41) ?hr ?_; (case hd => rfl); (case hg => rfl); (case hr => first | (go_simp; done) | (go_simp; rfl)); intro gb106 hg w8 hbox hb; have n0_ := asd (Kd.R_below (rUp HO1_1.out) hb); have n1_ := asd (blk_below (g := gb104) (o := .cells #[.bool a0_0, .slice A0_1 l0_1.length c0_1, .int .i64 a0_2] 41 (0, 0)) (blkU BK104.out) hb); have n2_ := asd (blk_below (g := gb105) (o := .cells #[.bool a1_0, .slice Ao6 l1_1.length co6, .int .i64 a1_2] 41 (0, 0)) (blkU BK105.out) hb); have n3_ := asd (Kept.below (S := (fun k_ => P1_1_ k_)) (by repeat (first | (with_reducible first | exact HK.out | apply Kept.alloc | apply Kept.drewN | apply Kept.drew | refine Kept.setCell ?_ (.inr GW104.out) _ | refine Kept.setCell ?_ (.inr GW105.out) _) | exact HK.out)) hb); have n4_ := asd (below_step hbs hb); have n5_ := asd (hbox); have n6_ := asd ((by rw [hg]; exact (by first | exact HK.out.1 | exact (show Kept w _ (fun k_ => P1_1_ k_) from by repeat (first | (with_reducible first | exact HK.out | apply Kept.alloc | apply Kept.drewN | apply Kept.drew | refine Kept.setCell ?_ (.inr GW104.out) _ | refine Kept.setCell ?_ (.inr GW105.out) _) | exact HK.out)).1) : w.heap.size ≤ gb106)); have n7_ := asd ((by rw [hg]; exact (below_size hbs) : w0.heap.size ≤ gb106)); have n8_ := asd ((by rw [hg]; exact Nat.ne_of_lt (blk_lt (g := gb104) (o := .cells #[.bool a0_0, .slice A0_1 l0_1.length c0_1, .int .i64 a0_2] 41 (0, 0)) (blkU BK104.out)) : gb104 ≠ gb106)); have n9_ := asd ((by rw [hg]; exact Nat.ne_of_gt (blk_lt (g := gb104) (o := .cells #[.bool a0_0, .slice A0_1 l0_1.length c0_1, .int .i64 a0_2] 41 (0, 0)) (blkU BK104.out)) : gb106 ≠ gb104)); have n10_ := asd ((by rw [hg]; exact Nat.ne_of_lt (blk_lt (g := gb105) (o := .cells #[.bool a1_0, .slice Ao6 l1_1.length co6, .int .i64 a1_2] 41 (0, 0)) (blkU BK105.out)) : gb105 ≠ gb106)); have n11_ := asd ((by rw [hg]; exact Nat.ne_of_gt (blk_lt (g := gb105) (o := .cells #[.bool a1_0, .slice Ao6 l1_1.length co6, .int .i64 a1_2] 41 (0, 0)) (blkU BK105.out)) : gb106 ≠ gb105)); clear HO1_1; clear BK104; clear BK105; clear HK; clear HB; have HO1_1 := n0_; have BK104 := n1_; have BK105 := n2_; have HK := n3_; have HB := n4_; have BK106 := n5_; have GW106 := n6_; have GE106 := n7_; have NB104_106 := n8_; have NB106_104 := n9_; have NB105_106 := n10_; have NB106_105 := n11_; clear n0_ n1_ n2_ n3_ n4_ n5_ n6_ n7_ n8_ n9_ n10_ n11_; clear hb hbox hg))
 have n0_ := asd (Kd.R_drew HO1_1.out)
 have n1_ := asd (blk_drew BK104.out)
 have n2_ := asd (blk_drew BK105.out)
 have n3_ := asd (blk_drew BK106.out)
 have n4_ := asd (Kept.drew HK.out)
 have n5_ := asd (below_drew1 HB.out)
 clear HO1_1
 clear BK104
 clear BK105
 clear BK106
 clear HK
 clear HB
 have HO1_1 := n0_
 have BK104 := n1_
 have BK105 := n2_
 have BK106 := n3_
 have HK := n4_
 have HB := n5_
 clear n0_ n1_ n2_ n3_ n4_ n5_
 refine start_ (n := 5) (S := fun w' => w'.cell? ⟨gb104, 0, none⟩ = some (.bool a0_0) ∧ w'.cell? ⟨gb104, 1, none⟩ = some (.slice A0_1 l0_1.length c0_1) ∧ w'.cell? ⟨gb104, 2, none⟩ = some (.int .i64 a0_2) ∧ w'.cell? ⟨gb105, 0, none⟩ = some (.bool a1_0) ∧ w'.cell? ⟨gb105, 1, none⟩ = some (.slice Ao6 l1_1.length co6) ∧ w'.cell? ⟨gb105, 2, none⟩ = some (.int .i64 a1_2)) (ds := []) #[false, false, false, false, false] (by kernel_rfl) rfl rfl ⟨(blk_cell BK104.out 0).trans rfl, (blk_cell BK104.out 1).trans rfl, (blk_cell BK104.out 2).trans rfl, (blk_cell BK105.out 0).trans rfl, (blk_cell BK105.out 1).trans rfl, (blk_cell BK105.out 2).trans rfl⟩ (fun hHeld => ?_)
 generalize w8.drew = w9 at HO1_1 BK104 BK105 BK106 HK HB hHeld ⊢
 refine take_ (i := 0) (N := some 5) (v := ?_) (a' := ?_) #[true, false, false, false, false] rfl rfl (by kernel_rfl) (fun _ _ _ h => h) (Or.inl ⟨by rfl, ?_⟩) hHeld ?_ ?_
 rotate_left
 ·rintro w' ⟨s0, s1, s2, s3, s4, s5⟩
  go_simp
  with_reducible rfl
 rotate_left
 ·simp only [Act.put, List.setIfInBounds_toArray, List.set_cons_zero, List.set_cons_succ, i64_w, i32_w]
  rfl
 refine take_ (i := 1) (N := some 6) (v := ?_) (a' := ?_) #[true, true, false, false, false] rfl rfl (by kernel_rfl) (fun _ _ _ h => h) (Or.inl ⟨by rfl, ?_⟩) hHeld ?_ ?_
 rotate_left
 ·rintro w' ⟨s0, s1, s2, s3, s4, s5⟩
  go_simp
  with_reducible rfl
 rotate_left
 ·simp only [Act.put, List.setIfInBounds_toArray, List.set_cons_zero, List.set_cons_succ, i64_w, i32_w]
  rfl
 refine one_ (i := 2) (N := some 7) #[true, true, true, false, false] rfl rfl (by kernel_rfl) (by decide) (fun K hK => ?_)
 refine goes_ Tryz.func77 (by kernel_rfl) rfl #[.agg #[.bool a1_0, .slice Ao6 l1_1.length co6, .int .i64 a1_2]] (by rfl) rfl rfl eqA ?_
 with_reducible refine (cuspref02_Minus.calls a1_0 (fun k_ => some k_ = (.slice Ao6 l1_1.length co6 : Value).ownBlock) (.slice Ao6 l1_1.length co6) l1_1 a1_2 t107 t108 t111 w0 _ ?side1 ?side2 A3.out).mono ?_
 (case side1 => repeat (first | (with_reducible first | exact HB.out | apply below_alloc | apply pw_below_drewN | apply below_drew1 | refine below_set ?_ GE104.out | refine below_set ?_ GE105.out | refine below_set ?_ GE106.out) | exact HB.out))
 (case side2 => exact Kd.R_tight rfl HO1_1.out)
 rintro e w10 ⟨v109, rfl, ho0, hb, hkp⟩
 refine ⟨_, rfl, ?_⟩
 have n0_ := asd (blk_kept (blkU BK104.out) hkp (fun hs_ => (fun e_ => (Kd.R_ne HO1_1.out BK104.out (by decide)) e_) hs_))
 have n1_ := asd (blk_kept (blkU BK105.out) hkp (fun hs_ => (fun e_ => (Kd.R_ne HO1_1.out BK105.out (by decide)) e_) hs_))
 have n2_ := asd (blk_kept (blkU BK106.out) hkp (fun hs_ => (fun e_ => (Kd.R_ne HO1_1.out BK106.out (by decide)) e_) hs_))
 have n3_ := asd (Kd.R_mono (ok' := fun k_ => (P1_1_ k_ ∨ w.heap.size ≤ k_)) ho0 (fun k_ hk_ => Or.elim hk_ (fun hs_ => (HO1_1.out.1 k_ (hs_).symm)) (fun hn_ => (.inr (Nat.le_trans (by first | exact HK.out.1 | exact (show Kept w _ (fun k_ => P1_1_ k_) from by repeat (first | (with_reducible first | exact HK.out | apply Kept.alloc | apply Kept.drewN | apply Kept.drew | refine Kept.setCell ?_ (.inr GW104.out) _ | refine Kept.setCell ?_ (.inr GW105.out) _ | refine Kept.setCell ?_ (.inr GW106.out) _) | exact HK.out)).1) hn_)))))
 have n4_ := asd (Kept.then_ (S := (fun k_ => P1_1_ k_)) (by repeat (first | (with_reducible first | exact HK.out | apply Kept.alloc | apply Kept.drewN | apply Kept.drew | refine Kept.setCell ?_ (.inr GW104.out) _ | refine Kept.setCell ?_ (.inr GW105.out) _ | refine Kept.setCell ?_ (.inr GW106.out) _) | exact HK.out)) hkp (fun k_ hs_ => (fun e_ => (HO1_1.out.1 k_ e_.symm)) hs_))
 have n5_ := asd (hb)
 clear BK104
 clear BK105
 clear BK106
 clear HK
 clear HB
 clear HO1_1
 have BK104 := n0_
 have BK105 := n1_
 have BK106 := n2_
 have HO110 := n3_
 have HK := n4_
 have HB := n5_
 clear n0_ n1_ n2_ n3_ n4_ n5_
 (try clear hb)
 (try clear hkp)
 (try clear ho0)
 obtain ⟨Ao11, co11, eo11⟩ := Kd.R_slice HO110.out
 (first | subst eo11 | (injection eo11 with f1_ f2_ f3_; have f4_ := f1_.symm; have f5_ := f3_.symm; clear f1_ f2_ f3_; subst f4_; subst f5_))
 refine hK.out _ _ ⟨(blk_cell BK104.out 0).trans rfl, (blk_cell BK104.out 1).trans rfl, (blk_cell BK104.out 2).trans rfl, (blk_cell BK105.out 0).trans rfl, (blk_cell BK105.out 1).trans rfl, (blk_cell BK105.out 2).trans rfl⟩ (fun hHeld => ?_)
 clear hK K
 refine norm_ (a' := ?_) ?_ ?_
 rotate_left
 ·show Act.put _ (some 7) _ = _
  simp only [Act.put, List.setIfInBounds_toArray, List.set_cons_zero, List.set_cons_succ, i64_w, i32_w]
  rfl
 refine one_ (i := 3) (N := some 8) #[true, true, true, true, false] rfl rfl (by kernel_rfl) (by decide) (fun K hK => ?_)
 refine goes_ Tryz.func25 (by kernel_rfl) rfl #[.agg #[.bool a0_0, .slice A0_1 l0_1.length c0_1, .int .i64 a0_2], .agg #[.bool t107, .slice Ao11 t108.length co11, .int .i64 t111]] (by rfl) rfl rfl eqA ?_
 with_reducible refine (cuspref02_Plus.calls a0_0 _ _ l0_1 a0_2 t107 _ _ t108 t111 t112 t113 t116 _ ?side1 ?side2 ?side3 ?side4 A4.out).mono ?_
 (case side1 => exact Kd.C_kept_now HR0_1.out (by repeat (first | (with_reducible first | exact HK.out | apply Kept.alloc | apply Kept.drewN | apply Kept.drew | refine Kept.setCell ?_ (.inr GW104.out) _ | refine Kept.setCell ?_ (.inr GW105.out) _ | refine Kept.setCell ?_ (.inr GW106.out) _) | exact HK.out)))
 (case side2 => exact HC0_1.out)
 (case side3 => repeat (first | exact (Kd.R_reads' HO110.out).2.2 | (with_reducible refine Kd.C_alloc ?_ _) | (with_reducible refine Kd.C_drewN ?_ _) | (with_reducible refine Kd.C_drew ?_)))
 (case side4 => exact (Kd.R_reads' HO110.out).2.1)
 rintro e w12 ⟨v114, rfl, ho0, hb⟩
 refine ⟨_, rfl, ?_⟩
 have n0_ := asd (Kd.R_elder' (rUp HO110.out) (Kd.R_base ho0) hb)
 have n1_ := asd (Kd.R_lower (Kd.R_new' (Kd.R_newM (M := fun k_ => (P1_1_ k_ ∨ w.heap.size ≤ k_)) ho0 (by first | exact HK.out.1 | exact (show Kept w _ (fun k_ => P1_1_ k_) from by repeat (first | (with_reducible first | exact HK.out | apply Kept.alloc | apply Kept.drewN | apply Kept.drew | refine Kept.setCell ?_ (.inr GW104.out) _ | refine Kept.setCell ?_ (.inr GW105.out) _ | refine Kept.setCell ?_ (.inr GW106.out) _) | exact HK.out)).1) (fun k_ h_ => .inr h_)) (Kd.R_lt (rUp HO110.out))) (below_size hbs))
 have n2_ := asd (blk_below (g := gb104) (o := .cells #[.bool a0_0, .slice A0_1 l0_1.length c0_1, .int .i64 a0_2] 41 (0, 0)) (blkU BK104.out) hb)
 have n3_ := asd (blk_below (g := gb105) (o := .cells #[.bool a1_0, .slice Ao6 l1_1.length co6, .int .i64 a1_2] 41 (0, 0)) (blkU BK105.out) hb)
 have n4_ := asd (blk_below (g := gb106) (o := .cells #[.bool false, .slice none 0 0, .int .i64 0] 41 (0, 0)) (blkU BK106.out) hb)
 have n5_ := asd (Kept.below (S := (fun k_ => P1_1_ k_)) (by repeat (first | (with_reducible first | exact HK.out | apply Kept.alloc | apply Kept.drewN | apply Kept.drew | refine Kept.setCell ?_ (.inr GW104.out) _ | refine Kept.setCell ?_ (.inr GW105.out) _ | refine Kept.setCell ?_ (.inr GW106.out) _) | exact HK.out)) hb)
 have n6_ := asd (below_step hbs hb)
 clear HO110
 clear BK104
 clear BK105
 clear BK106
 clear HK
 clear HB
 have HO110 := n0_
 have HO115 := n1_
 have BK104 := n2_
 have BK105 := n3_
 have BK106 := n4_
 have HK := n5_
 have HB := n6_
 clear n0_ n1_ n2_ n3_ n4_ n5_ n6_
 (try clear hb)
 (try clear hb2)
 (try clear hk)
 (try clear hi)
 (try clear ho0)
 obtain ⟨Ao14, co14, eo14⟩ := Kd.R_slice HO115.out
 (first | subst eo14 | (injection eo14 with f1_ f2_ f3_; have f4_ := f1_.symm; have f5_ := f3_.symm; clear f1_ f2_ f3_; subst f4_; subst f5_))
 refine hK.out _ _ ⟨(blk_cell BK104.out 0).trans rfl, (blk_cell BK104.out 1).trans rfl, (blk_cell BK104.out 2).trans rfl, (blk_cell BK105.out 0).trans rfl, (blk_cell BK105.out 1).trans rfl, (blk_cell BK105.out 2).trans rfl⟩ (fun hHeld => ?_)
 clear hK K
 refine norm_ (a' := ?_) ?_ ?_
 rotate_left
 ·show Act.put _ (some 8) _ = _
  simp only [Act.put, List.setIfInBounds_toArray, List.set_cons_zero, List.set_cons_succ, i64_w, i32_w]
  rfl
 refine one_ (i := 4) (N := none) #[true, true, true, true, true] rfl rfl (by kernel_rfl) (by decide) (fun K hK => ?_)
 have hs13 : w12.cell? ⟨gb106, 0, none⟩ = some (.bool false) := (blk_cell BK106.out 0).trans rfl
 have hfs13 := blk_frozen BK106.out 0
 have hns13_0 := NB104_106.out
 have hns13_1 := NB105_106.out
 have hms13_0 := NB106_104.out
 have hms13_1 := NB106_105.out
 have hs15 : w12.cell? ⟨gb106, 1, none⟩ = some (.slice none 0 0) := (blk_cell BK106.out 1).trans rfl
 have hfs15 := blk_frozen BK106.out 1
 have hns15_0 := NB104_106.out
 have hns15_1 := NB105_106.out
 have hms15_0 := NB106_104.out
 have hms15_1 := NB106_105.out
 have hs16 : w12.cell? ⟨gb106, 2, none⟩ = some (.int .i64 0) := (blk_cell BK106.out 2).trans rfl
 have hfs16 := blk_frozen BK106.out 2
 have hns16_0 := NB104_106.out
 have hns16_1 := NB105_106.out
 have hms16_0 := NB106_104.out
 have hms16_1 := NB106_105.out
 refine skip_ (w1 := ?_) (by rfl) rfl ?_ ?_
 rotate_left
 ·go_simp
  rfl
 refine hK.out _ _ ⟨((cell_far (p := ⟨gb106, _, none⟩) NB104_106.out _).trans (((cell_far (p := ⟨gb106, _, none⟩) NB104_106.out _).trans (((cell_far (p := ⟨gb106, _, none⟩) NB104_106.out _).trans (hHeld.1)))))), ((cell_far (p := ⟨gb106, _, none⟩) NB104_106.out _).trans (((cell_far (p := ⟨gb106, _, none⟩) NB104_106.out _).trans (((cell_far (p := ⟨gb106, _, none⟩) NB104_106.out _).trans (hHeld.2.1)))))), ((cell_far (p := ⟨gb106, _, none⟩) NB104_106.out _).trans (((cell_far (p := ⟨gb106, _, none⟩) NB104_106.out _).trans (((cell_far (p := ⟨gb106, _, none⟩) NB104_106.out _).trans (hHeld.2.2.1)))))), ((cell_far (p := ⟨gb106, _, none⟩) NB105_106.out _).trans (((cell_far (p := ⟨gb106, _, none⟩) NB105_106.out _).trans (((cell_far (p := ⟨gb106, _, none⟩) NB105_106.out _).trans (hHeld.2.2.2.1)))))), ((cell_far (p := ⟨gb106, _, none⟩) NB105_106.out _).trans (((cell_far (p := ⟨gb106, _, none⟩) NB105_106.out _).trans (((cell_far (p := ⟨gb106, _, none⟩) NB105_106.out _).trans (hHeld.2.2.2.2.1)))))), ((cell_far (p := ⟨gb106, _, none⟩) NB105_106.out _).trans (((cell_far (p := ⟨gb106, _, none⟩) NB105_106.out _).trans (((cell_far (p := ⟨gb106, _, none⟩) NB105_106.out _).trans (hHeld.2.2.2.2.2))))))⟩ (fun hHeld => ?_)
 clear hK K
 refine done_ (by kernel_rfl) ?_
 try go_wp2
 refine bodyPost_ret (results_cell_row rfl _ _ gb106 41 #[.bool t112, .slice Ao14 t113.length co14, .int .i64 t116] (0, 0) _ rfl (by (with_reducible repeat (first | refine blk_drewN ?_ _ | refine blk_drew ?_ | refine blk_alloc ?_ _)); refine blk_put (cs := #[.bool t112, .slice Ao14 t113.length co14, .int .i64 0]) ?_ 2 _ rfl; (with_reducible repeat (first | refine blk_drewN ?_ _ | refine blk_drew ?_ | refine blk_alloc ?_ _)); refine blk_put (cs := #[.bool t112, .slice none 0 0, .int .i64 0]) ?_ 1 _ rfl; (with_reducible repeat (first | refine blk_drewN ?_ _ | refine blk_drew ?_ | refine blk_alloc ?_ _)); refine blk_put (cs := #[.bool false, .slice none 0 0, .int .i64 0]) ?_ 0 _ rfl; (with_reducible repeat (first | refine blk_drewN ?_ _ | refine blk_drew ?_ | refine blk_alloc ?_ _)); exact BK106.out) Tryz.underlying41 rfl (by kernel_rfl)) rfl ?_
 exact ⟨_, eqC, by (with_reducible repeat (first | apply Kd.R_alloc | apply Kd.R_drewN | apply Kd.R_drew)); exact Kd.R_mono (Kd.R_far (p := ⟨gb106, 2, none⟩) (Kd.R_far (p := ⟨gb106, 1, none⟩) (Kd.R_far (p := ⟨gb106, 0, none⟩) (Kd.R_types HO115.out BK106.out (by decide)) (fun _ hk => hk.2) (.bool t112)) (fun _ hk => hk.2) (.slice Ao14 t113.length co14)) (fun _ hk => hk.2) (.int .i64 t116)) (fun _ hk => hk.1.1.1), hbs, by repeat (first | (with_reducible first | exact HK.out | apply Kept.alloc | apply Kept.drewN | apply Kept.drew | refine Kept.setCell ?_ (.inr GW104.out) _ | refine Kept.setCell ?_ (.inr GW105.out) _ | refine Kept.setCell ?_ (.inr GW106.out) _) | exact HK.out)⟩
end Go.Proofs.YthmeocigliephaaGreatDoor.PSv
end
section
namespace Go.Proofs.YthmeocigliephaaGreatDoor.PSv
open Go.Proofs.YthmeocigliephaaGreatDoor.PSu Go.RowKit Go.Proofs.YthmeocigliephaaGreatDoorW.PrintWords Go.Proofs.YthmeocigliephaaGreatDoorW.PrintLast Go.Proofs.YthmeocigliephaaGreatDoorW.PrintMore
attribute [local go_sem] f64bits_run f64from_run run_float_some max2_int min2_int max_two min_two max_three min_three max_four min_four
def cuspref01_Not.f  : Option (Nat) := (cuspref01_Of.f 9221120237041090560).bind fun t117 => (some t117)
end Go.Proofs.YthmeocigliephaaGreatDoor.PSv
end
section
namespace Go.Proofs.YthmeocigliephaaGreatDoor.PSv
open Go.Proofs.YthmeocigliephaaGreatDoor.PSu Go.RowKit Go.Proofs.YthmeocigliephaaGreatDoorW.PrintWords Go.Proofs.YthmeocigliephaaGreatDoorW.PrintLast Go.Proofs.YthmeocigliephaaGreatDoorW.PrintMore
attribute [local go_sem] f64bits_run f64from_run run_float_some max2_int min2_int max_two min_two max_three min_three max_four min_four
def cuspref03_Sum0.f (a0 : Bool) (a1 : Bool) (a2 : Int) : Option (Nat) := if a0 = true then (if a1 = true then ((cuspref01_Nought.f true).bind fun t118 => (some t118)) else (if a2 = 1 then ((cuspref01_Nought.f true).bind fun t119 => (some t119)) else ((cuspref01_Nought.f false).bind fun t120 => (some t120)))) else (if a2 = 1 then ((cuspref01_Nought.f a1).bind fun t121 => (some t121)) else ((cuspref01_Nought.f false).bind fun t122 => (some t122)))
def cuspref03_sign.f (a0 : Nat) : Option (Bool) := (cuspref01_Neg.f a0).bind fun t123 => (some t123)
mutual
def cuspref03_Add.j0 : Nat → Nat → Nat → Int → Bool → Option (Nat)
 | 0, _, _, _, _ => none
 | k + 1, x0, x1, x2, x7 => if x7 = true then ((cuspref01_Not.f).bind fun t127 => (some t127)) else ((cuspref01_IsInf.f x0).bind fun t128 => (if t128 = true then ((cuspref01_IsInf.f x1).bind fun t129 => (cuspref03_Add.j1 k x0 x1 x2 t129)) else (cuspref03_Add.j1 k x0 x1 x2 false)))
def cuspref03_Add.j1 : Nat → Nat → Nat → Int → Bool → Option (Nat)
 | 0, _, _, _, _ => none
 | k + 1, x0, x1, x2, x20 => if x20 = true then ((cuspref01_Neg.f x0).bind fun t130 => ((cuspref01_Neg.f x1).bind fun t131 => (if (t130 != t131) = true then ((cuspref01_Not.f).bind fun t132 => (some t132)) else (some x0)))) else ((cuspref01_IsInf.f x0).bind fun t133 => (if t133 = true then (some x0) else ((cuspref01_IsInf.f x1).bind fun t134 => (if t134 = true then (some x1) else ((cuspref02_Float.f k x0).bind fun bt135 => ((cuspref02_Float.f k x1).bind fun bt140 => ((cuspref02_Plus.f bt135.1 bt135.2.1 bt135.2.2 bt140.1 bt140.2.1 bt140.2.2).bind fun bt145 => ((cuspref03_sign.f x0).bind fun t150 => ((cuspref03_sign.f x1).bind fun t151 => ((cuspref03_Sum0.f t150 t151 x2).bind fun t152 => ((cuspref03_R.f bt145.1 bt145.2.1 bt145.2.2 x2 t152).bind fun t153 => (some t153))))))))))))
end
def cuspref03_Add.f (k : Nat) (a0 : Nat) (a1 : Nat) (a2 : Int) : Option (Nat) := (cuspref03_Valid.f a2).bind fun t124 => (if t124 = 0 then ((cuspref01_IsNaN.f a0).bind fun t125 => (if t125 = true then (cuspref03_Add.j0 k a0 a1 a2 true) else ((cuspref01_IsNaN.f a1).bind fun t126 => (cuspref03_Add.j0 k a0 a1 a2 t126)))) else (cuspref03_Add.j0 k a0 a1 a2 true))
def cuspref05_add.f (k : Nat) (a0 : Nat) (a1 : Nat) : Option (Nat) := (cuspref03_Add.f k a0 a1 2).bind fun t154 => (some t154)
def cuspref05_Two.f (k : Nat) (a0 : Nat) (a1 : Nat) : Option (Nat × Nat) := (cuspref05_add.f k a0 a1).bind fun t155 => ((cuspref01_Finite.f t155).bind fun t156 => (if t156 = true then ((cuspref02_Float.f k a0).bind fun bt157 => ((cuspref02_Float.f k a1).bind fun bt162 => ((cuspref02_Plus.f bt157.1 bt157.2.1 bt157.2.2 bt162.1 bt162.2.1 bt162.2.2).bind fun bt167 => ((cuspref02_Float.f k t155).bind fun bt172 => ((cuspref02_Less.f bt167.1 bt167.2.1 bt167.2.2 bt172.1 bt172.2.1 bt172.2.2).bind fun bt177 => ((cuspref03_R.f bt177.1 bt177.2.1 bt177.2.2 2 (0 : Nat)).bind fun t182 => (some (t155, t182)))))))) else (some (t155, (0 : Nat)))))
def cusplaw05_SumsTwo.f (k : Nat) (a0 : Nat) (a1 : Nat) : Option (Bool) := (sums_Two.f k a0 a1).bind fun bt183 => ((cuspref05_Two.f k a0 a1).bind fun bt185 => ((cusplaw05_same.f bt183.1 bt185.1).bind fun t187 => (if t187 = true then ((cusplaw05_same.f bt183.2 bt185.2).bind fun t188 => (if t188 = true then ((cusplaw05_sure.f).bind fun t189 => (some t189)) else (some false))) else (some false))))
end Go.Proofs.YthmeocigliephaaGreatDoor.PSv
end
section
namespace Go.Proofs.YthmeocigliephaaGreatDoor.Big
open Go.Proofs.YthmeocigliephaaGreatDoor.PSv Go.Proofs.YthmeocigliephaaGreatDoor.PSu Go.Proofs.YthmeocigliephaaGreatDoor.Plain Ieee
theorem rfinite_law {b : Nat} (h : b < 18446744073709551616) : cuspref01_Finite.f b = some (decide (Fin64 b)) := by
  unfold cuspref01_Finite.f
  rw [mag_law h, Option.bind_some]
  have hk : (((b % 9223372036854775808 : Nat) : Int) < 9218868437227405312) ↔ Fin64 b := by
    unfold Fin64
    constructor
    · intro h2; exact ⟨h, by omega⟩
    · intro h2; have := h2.2; omega
  exact congrArg some (decide_eq_decide.2 hk)
theorem rminus_law (y : Int) : cuspref02_Minus.f (canN y (-1074)).1 (canN y (-1074)).2.1 (canN y (-1074)).2.2 = some (canN (-y) (-1074)) := by
  unfold cuspref02_Minus.f
  rw [neg_can]
  by_cases h : y = 0
  · rw [if_pos (by have := (can_length (e := -1074)).2 h; omega), if_pos h]
  · rw [if_neg (fun h' => h ((can_length (e := -1074)).1 (by omega))), if_neg h]
theorem rless_can {x y : Int} (hx : bl x.natAbs ≤ 900000) (hy : bl y.natAbs ≤ 900000) : cuspref02_Less.f (canN x (-1074)).1 (canN x (-1074)).2.1 (canN x (-1074)).2.2 (canN y (-1074)).1 (canN y (-1074)).2.1 (canN y (-1074)).2.2 = some (canN (x - y) (-1074)) := by
  unfold cuspref02_Less.f
  rw [rminus_law, Option.bind_some, rplus_can hx (by rw [Int.natAbs_neg]; exact hy), Option.bind_some, show x + -y = x - y by omega]
end Go.Proofs.YthmeocigliephaaGreatDoor.Big
end
section
namespace Go.Proofs.YthmeocigliephaaGreatDoor.PSe
open Go.Proofs.YthmeocigliephaaGreatDoor.PSu Go.Proofs.YthmeocigliephaaGreatDoor.PSv Go.RowKit Go.Proofs.YthmeocigliephaaGreatDoorW.PrintWords Go.Proofs.YthmeocigliephaaGreatDoorW.PrintLast Go.Proofs.YthmeocigliephaaGreatDoorW.PrintMore
attribute [local go_sem] f64bits_run f64from_run run_float_some max2_int min2_int max_two min_two max_three min_three max_four min_four
def errW : Option Int → Value
 | none => .nilIface
 | some c => .iface 0 (.int .i64 c)
theorem errW_none : errW none = .nilIface := rfl
theorem errW_some (c : Int) : errW (some c) = .iface 0 (.int .i64 c) := rfl
theorem info25 : (Tryz.prog.info? 25).map (fun i => (i.zero, i.size, i.bytes)) = some (some (.float .f64 0), 1, 8) := by kernel_rfl
end Go.Proofs.YthmeocigliephaaGreatDoor.PSe
end
section
namespace Go.Proofs.YthmeocigliephaaGreatDoor.PSe
open Go.Proofs.YthmeocigliephaaGreatDoor.PSu Go.Proofs.YthmeocigliephaaGreatDoor.PSv Go.RowKit Go.Proofs.YthmeocigliephaaGreatDoorW.PrintWords Go.Proofs.YthmeocigliephaaGreatDoorW.PrintLast Go.Proofs.YthmeocigliephaaGreatDoorW.PrintMore
attribute [local go_sem] f64bits_run f64from_run run_float_some max2_int min2_int max_two min_two max_three min_three max_four min_four
def cuspref05_Apart.l0 : Nat → List Nat → Bool → List Int → Int → Option (List Nat × Int)
 | 0, _, _, _, _ => none
 | k + 1, x6, x123000, x123001, x123002 => (cuspref02_Sgn.f x123000 x123001 x123002).bind fun t123 => (if t123 = 0 then (some (x6, 0)) else ((cuspref02_To.f x123000 x123001 x123002 2).bind fun t124 => ((cuspref01_Finite.f t124).bind fun t125 => (if t125 = true then (if x6.length < 17592186044416 then ((cuspref02_Float.f k t124).bind fun bt129 => ((cuspref02_Less.f x123000 x123001 x123002 bt129.1 bt129.2.1 bt129.2.2).bind fun bt134 => (cuspref05_Apart.l0 k (x6 ++ [t124]) bt134.1 bt134.2.1 bt134.2.2))) else (none)) else (some (([] : List Nat), 5))))))
def cuspref05_Apart.f (k : Nat) (l0 : List Nat) : Option (List Nat × Int) := (cuspref05_Fault.f k l0).bind fun t116 => (if t116 = 0 then ((cuspref05_Total.f k l0).bind fun bt117 => (cuspref05_Apart.l0 k ([] : List Nat) bt117.1 bt117.2.1 bt117.2.2)) else (some (([] : List Nat), t116)))
theorem cuspref05_Apart.calls (k : Nat) (A0 : Option Addr) (c0 : Nat) (l0 : List Nat) (r1 : List Nat) (r2 : Int) (w : World) (hr0 : Kd.C Kd.float w A0 l0.length l0) (hc0 : l0.length ≤ c0) (h : cuspref05_Apart.f k l0 = some (r1, r2)) :
  Calls Tryz.prog 37 #[.slice A0 l0.length c0] w fun e w' => ∃ v0_ : Value, e = .returned (.tuple #[v0_, .int .i64 r2]) ∧ Kd.R Kd.float 25 w' w.heap.size (fun _ => True) v0_ r1 ∧ Below w.heap.size w w' := by
 have hu41 := Tryz.underlying41
 have HR0 := asd hr0
 have HC0 := asd hc0
 clear hr0 hc0
 have HB := asd (Below.refl w.heap.size w)
 have H := h
 clear h
 unfold cuspref05_Apart.f at H
 replace H := Option.bind_eq_some_iff.mp H
 obtain ⟨t116, A20, H⟩ := H
 have A2 := asd A20
 clear A20
 by_cases c3 : t116 = 0
 ·rw [if_pos c3] at H
  have c3b0 := beq_iff_eq.mpr c3
  have c3b1 := bne_eq_false_iff_eq.mpr c3
  clear c3
  replace H := Option.bind_eq_some_iff.mp H
  obtain ⟨⟨t117, t118, t121⟩, A40, H⟩ := H
  replace H : (cuspref05_Apart.l0 k ([] : List Nat) t117 t118 t121) = some (r1, r2) := H
  have A4 := asd A40
  clear A40
  have H' := asd H
  clear H
  go_enter Tryz.func37, Tryz.ntmps37
  go_wp2_with (first | ((with_reducible refine gate_callee (f := 57) rfl ?_); refine goesL_ (some 9) rfl rfl Tryz.func57 (by kernel_rfl) rfl #[.slice A0 l0.length c0] rfl eqA ?_; (with_reducible refine (cuspref05_Fault.calls k _ _ l0 t116 _ ?side1 ?side2 A2.out).mono ?_); (case side1 => repeat (first | exact HR0.out | (with_reducible refine Kd.C_alloc ?_ _) | (with_reducible refine Kd.C_drewN ?_ _) | (with_reducible refine Kd.C_drew ?_))); (case side2 => exact HC0.out); rintro e w' ⟨rfl, ⟨nd, rfl⟩⟩; refine ⟨_, rfl, ?_⟩) | ((with_reducible refine gate_callee (f := 60) rfl ?_); refine goesL_ (some 14) rfl rfl Tryz.func60 (by kernel_rfl) rfl #[.slice A0 l0.length c0] rfl eqA ?_; (with_reducible refine (cuspref05_Total.calls k _ _ l0 t117 t118 t121 _ ?side1 ?side2 A4.out).mono ?_); (case side1 => repeat (first | exact HR0.out | (with_reducible refine Kd.C_alloc ?_ _) | (with_reducible refine Kd.C_drewN ?_ _) | (with_reducible refine Kd.C_drew ?_))); (case side2 => exact HC0.out); rintro e w5 ⟨v119, rfl, ho0, hb⟩; refine ⟨_, rfl, ?_⟩; have n0_ := asd (Kd.R_lower ho0 (below_size hbw)); have n1_ := asd (below_step hbw hb); clear HB; have HO120 := n0_; have HB := n1_; clear n0_ n1_; (try clear hb); (try clear ho0)) | ((with_reducible refine gate_dst (N := 5) rfl ?_); refine box_event ?hg (N := 5) ?hd (cs := #[.bool false, .slice none 0 0, .int .i64 0]) (t := 41) ?hr ?_; (case hd => rfl); (case hg => rfl); (case hr => first | (go_simp; done) | (go_simp; rfl)); intro gb122 hg w6 hbox hb; have n0_ := asd (Kd.R_below (rUp HO120.out) hb); have n1_ := asd (below_step hbw hb); have n2_ := asd (hbox); have n3_ := asd ((by rw [hg]; exact (below_size hbw) : w.heap.size ≤ gb122)); have n4_ := asd ((by rw [hg]; exact (below_size hbw) : w.heap.size ≤ gb122)); clear HO120; clear HB; have HO120 := n0_; have HB := n1_; have BK122 := n2_; have GW122 := n3_; have GE122 := n4_; clear n0_ n1_ n2_ n3_ n4_; clear hb hbox hg; obtain ⟨hcz7_0, hcz7_1, hcz7_2, hfz7_0, hfz7_1, hfz7_2⟩ := cz3 BK122.out; obtain ⟨Ao8, co8, eo8⟩ := Kd.R_slice HO120.out; subst eo8))
  go_loopg [6] k (fun kq v6 w' => ∃ (x6_1 : List Nat) (x123000_1 : Bool) (x123001_1 : List Int) (x123002_1 : Int) (u123001 : Value), Aside0 (cuspref05_Apart.l0 kq x6_1 x123000_1 x123001_1 x123002_1 = some (r1, r2)) ∧ Aside0 (kq ≤ k) ∧ Aside0 (Kd.R Kd.float 25 w' w.heap.size (fun _ => True) v6 x6_1) ∧ Aside0 (Kd.R (Kd.int .u32) 83 w' w.heap.size (fun _ => True) u123001 x123001_1) ∧ Aside0 (w'.heap[gb122]? = some (.cells #[.bool x123000_1, u123001, .int .i64 x123002_1] 41 (0, 0))) ∧ Aside0 (Below w.heap.size w w'))
  case atStart => exact ⟨(([] : List Nat)), (t117), (t118), (t121), (.slice Ao8 t118.length co8), H', ⟨Nat.le_refl _⟩, ⟨by first | exact Kd.R_nil _ _ _ _ _ | exact Kd.N_nil _ _ _ _ _ | exact Kd.V_nil _ _ _ _ _ | exact Kd.Q_nil _ _ _ _ _ | exact Kd.S_nil _ _ _ _ _⟩, ⟨by (with_reducible repeat (first | apply Kd.R_alloc | apply Kd.R_drewN | apply Kd.R_drew)); exact Kd.R_mono (Kd.R_far (p := ⟨gb122, 2, none⟩) (Kd.R_far (p := ⟨gb122, 1, none⟩) (Kd.R_far (p := ⟨gb122, 0, none⟩) (Kd.R_types HO120.out BK122.out (by decide)) (fun _ hk => hk.2) (.bool t117)) (fun _ hk => hk.2) (.slice Ao8 t118.length co8)) (fun _ hk => hk.2) (.int .i64 t121)) (fun _ hk => trivial)⟩, ⟨by (with_reducible repeat (first | refine blk_drewN ?_ _ | refine blk_drew ?_ | refine blk_alloc ?_ _)); refine blk_put (cs := #[.bool t117, .slice Ao8 t118.length co8, .int .i64 0]) ?_ 2 _ rfl; (with_reducible repeat (first | refine blk_drewN ?_ _ | refine blk_drew ?_ | refine blk_alloc ?_ _)); refine blk_put (cs := #[.bool t117, .slice none 0 0, .int .i64 0]) ?_ 1 _ rfl; (with_reducible repeat (first | refine blk_drewN ?_ _ | refine blk_drew ?_ | refine blk_alloc ?_ _)); refine blk_put (cs := #[.bool false, .slice none 0 0, .int .i64 0]) ?_ 0 _ rfl; (with_reducible repeat (first | refine blk_drewN ?_ _ | refine blk_drew ?_ | refine blk_alloc ?_ _)); exact BK122.out⟩, ⟨hbs⟩⟩
  case round =>
   clear H'
   try clear p2
   try clear c3
   try clear c3b0
   try clear c3b1
   try clear c5
   try clear c6
   try clear hcz7_0
   try clear hcz7_1
   try clear hcz7_2
   try clear hfz7_0
   try clear hfz7_1
   try clear hfz7_2
   obtain ⟨x6_1, x123000_1, x123001_1, x123002_1, u123001, HA, HK1, HO_6, HO_123001, BK122, HB⟩ := hrel
   cases gk with
   | zero => exact absurd HA.out (by simp [cuspref05_Apart.l0])
   | succ k1 =>
    have H := HA.out
    clear HA
    simp only [cuspref05_Apart.l0] at H
    replace H := Option.bind_eq_some_iff.mp H
    obtain ⟨t123, A90, H⟩ := H
    have A9 := asd A90
    clear A90
    by_cases c10 : t123 = 0
    ·rw [if_pos c10] at H
     have c10b0 := beq_iff_eq.mpr c10
     have c10b1 := bne_eq_false_iff_eq.mpr c10
     clear c10
     simp only [Option.some.injEq, Prod.mk.injEq] at H
     obtain ⟨rfl, rfl⟩ := H
     obtain ⟨hcz11_0, hcz11_1, hcz11_2, hfz11_0, hfz11_1, hfz11_2⟩ := cz3 BK122.out
     obtain ⟨Ao12, co12, eo12⟩ := Kd.R_slice HO_123001.out
     subst eo12
     go_wp2_with (first | ((with_reducible refine gate_callee (f := 32) rfl ?_); refine goesL_ (some 16) rfl rfl Tryz.func32 (by kernel_rfl) rfl #[.agg #[.bool x123000_1, .slice Ao12 x123001_1.length co12, .int .i64 x123002_1]] rfl eqA ?_; (with_reducible refine (cuspref02_Sgn.calls x123000_1 _ _ x123001_1 x123002_1 t123 _ ?side1 ?side2 A9.out).mono ?_); (case side1 => repeat (first | exact (Kd.R_reads' HO_123001.out).2.2 | (with_reducible refine Kd.C_alloc ?_ _) | (with_reducible refine Kd.C_drewN ?_ _) | (with_reducible refine Kd.C_drew ?_))); (case side2 => exact (Kd.R_reads' HO_123001.out).2.1); rintro e w13 ⟨rfl, hb⟩; refine ⟨_, rfl, ?_⟩; have n0_ := asd (Kd.R_below (rUp HO_6.out) hb); have n1_ := asd (Kd.R_below (rUp HO_123001.out) hb); have n2_ := asd (blk_below (g := gb122) (o := .cells #[.bool x123000_1, .slice Ao12 x123001_1.length co12, .int .i64 x123002_1] 41 (0, 0)) (blkU BK122.out) hb); have n3_ := asd (below_step hbs hb); clear HO_6; clear HO_123001; clear BK122; clear HB; have HO_6 := n0_; have HO_123001 := n1_; have BK122 := n2_; have HB := n3_; clear n0_ n1_ n2_ n3_; (try clear hb)))
     go_ret2
     exact ⟨_, eqC, by (with_reducible repeat (first | apply Kd.R_alloc | apply Kd.R_drewN | apply Kd.R_drew)); exact HO_6.out, hbs⟩
    ·rw [if_neg c10] at H
     have c10b0 := beq_eq_false_iff_ne.mpr c10
     have c10b1 := bne_iff_ne.mpr c10
     replace H := Option.bind_eq_some_iff.mp H
     obtain ⟨t124, A140, H⟩ := H
     have A14 := asd A140
     clear A140
     replace H := Option.bind_eq_some_iff.mp H
     obtain ⟨t125, A150, H⟩ := H
     have A15 := asd A150
     clear A150
     by_cases c16 : t125 = true
     ·subst c16
      rw [if_pos rfl] at H
      by_cases c17 : x6_1.length < 17592186044416
      ·rw [if_pos c17] at H
       have LMc17 := asd c17
       clear c17
       obtain ⟨y126, hy126⟩ : ∃ y_ : List Nat, y_ = (x6_1 ++ [t124]) := ⟨_, rfl⟩
       try rw [Option.bind_some] at H
       try rw [← hy126] at H
       have Ny126 := asd hy126
       clear hy126
       replace H := Option.bind_eq_some_iff.mp H
       obtain ⟨⟨t129, t130, t133⟩, A180, H⟩ := H
       replace H : ((cuspref02_Less.f x123000_1 x123001_1 x123002_1 t129 t130 t133).bind fun bt134 => (cuspref05_Apart.l0 k1 y126 bt134.1 bt134.2.1 bt134.2.2)) = some (r1, r2) := H
       have A18 := asd A180
       clear A180
       replace H := Option.bind_eq_some_iff.mp H
       obtain ⟨⟨t134, t135, t138⟩, A190, H⟩ := H
       replace H : (cuspref05_Apart.l0 k1 y126 t134 t135 t138) = some (r1, r2) := H
       have A19 := asd A190
       clear A190
       have H' := asd H
       clear H
       obtain ⟨hcz20_0, hcz20_1, hcz20_2, hfz20_0, hfz20_1, hfz20_2⟩ := cz3 BK122.out
       obtain ⟨Ao21, co21, eo21⟩ := Kd.R_slice HO_123001.out
       subst eo21
       try go_wp2_with (first | ((with_reducible refine gate_callee (f := 32) rfl ?_); refine goesL_ (some 16) rfl rfl Tryz.func32 (by kernel_rfl) rfl #[.agg #[.bool x123000_1, .slice Ao21 x123001_1.length co21, .int .i64 x123002_1]] rfl eqA ?_; (with_reducible refine (cuspref02_Sgn.calls x123000_1 _ _ x123001_1 x123002_1 t123 _ ?side1 ?side2 A9.out).mono ?_); (case side1 => repeat (first | exact (Kd.R_reads' HO_123001.out).2.2 | (with_reducible refine Kd.C_alloc ?_ _) | (with_reducible refine Kd.C_drewN ?_ _) | (with_reducible refine Kd.C_drew ?_))); (case side2 => exact (Kd.R_reads' HO_123001.out).2.1); rintro e w22 ⟨rfl, hb⟩; refine ⟨_, rfl, ?_⟩; have n0_ := asd (Kd.R_below (rUp HO_6.out) hb); have n1_ := asd (Kd.R_below (rUp HO_123001.out) hb); have n2_ := asd (blk_below (g := gb122) (o := .cells #[.bool x123000_1, .slice Ao21 x123001_1.length co21, .int .i64 x123002_1] 41 (0, 0)) (blkU BK122.out) hb); have n3_ := asd (below_step hbs hb); clear HO_6; clear HO_123001; clear BK122; clear HB; have HO_6 := n0_; have HO_123001 := n1_; have BK122 := n2_; have HB := n3_; clear n0_ n1_ n2_ n3_; (try clear hb); obtain ⟨hcz23_0, hcz23_1, hcz23_2, hfz23_0, hfz23_1, hfz23_2⟩ := cz3 BK122.out) | ((with_reducible refine gate_callee (f := 82) rfl ?_); refine goesL_ (some 19) rfl rfl Tryz.func82 (by kernel_rfl) rfl #[.agg #[.bool x123000_1, .slice Ao21 x123001_1.length co21, .int .i64 x123002_1], .int .i64 2] rfl eqA ?_; (with_reducible refine (cuspref02_To.calls x123000_1 _ _ x123001_1 x123002_1 2 t124 _ ?side1 ?side2 A14.out).mono ?_); (case side1 => repeat (first | exact (Kd.R_reads' HO_123001.out).2.2 | (with_reducible refine Kd.C_alloc ?_ _) | (with_reducible refine Kd.C_drewN ?_ _) | (with_reducible refine Kd.C_drew ?_))); (case side2 => exact (Kd.R_reads' HO_123001.out).2.1); rintro e w24 ⟨rfl, hb⟩; refine ⟨_, rfl, ?_⟩; have n0_ := asd (Kd.R_below (rUp HO_6.out) hb); have n1_ := asd (Kd.R_below (rUp HO_123001.out) hb); have n2_ := asd (blk_below (g := gb122) (o := .cells #[.bool x123000_1, .slice Ao21 x123001_1.length co21, .int .i64 x123002_1] 41 (0, 0)) (blkU BK122.out) hb); have n3_ := asd (below_step hbs hb); clear HO_6; clear HO_123001; clear BK122; clear HB; have HO_6 := n0_; have HO_123001 := n1_; have BK122 := n2_; have HB := n3_; clear n0_ n1_ n2_ n3_; (try clear hb)) | ((with_reducible refine gate_callee (f := 24) rfl ?_); refine goesL_ (some 21) rfl rfl Tryz.func24 (by kernel_rfl) rfl #[.float .f64 t124] rfl eqA ?_; (with_reducible refine (cuspref01_Finite.calls t124 true _ A15.out).mono ?_); rintro e w' ⟨rfl, ⟨nd, rfl⟩⟩; refine ⟨_, rfl, ?_⟩; (try (rw [drewN_self w24]; generalize hq_ : World.drewN w24 _ = w24; have n0_ : Aside0 (Kd.R (Kd.int .u32) 83 w24 w.heap.size (fun _ => True) (.slice Ao21 x123001_1.length co21) x123001_1) := ⟨by rw [← hq_]; exact (rUp HO_123001.out)⟩; have n1_ : Aside0 (Kd.R Kd.float 25 w24 w.heap.size (fun _ => True) u6 x6_1) := ⟨by rw [← hq_]; exact (rUp HO_6.out)⟩; have n2_ : Aside0 (w24.heap[gb122]? = some (.cells #[.bool x123000_1, .slice Ao21 x123001_1.length co21, .int .i64 x123002_1] 41 (0, 0))) := ⟨by rw [← hq_]; exact (blkU BK122.out)⟩; have n3_ : Aside0 (Below w.heap.size w w24) := ⟨by rw [← hq_]; exact hbs⟩; clear HO_123001 HO_6 BK122 HB hq_; have HO_123001 := n0_; have HO_6 := n1_; have BK122 := n2_; have HB := n3_; clear n0_ n1_ n2_ n3_))) | ((with_reducible refine gate_builtin (b := .append) (xs := #[.tmp 23, .tmp 25]) rfl ?_); at_builtin; refine Kd.R_append Kd.float (w0 := w) w.heap.size rfl (.tmp 23) (.tmp 25) 22 25 (.float .f64 0) 8 rfl Tryz.underlying22 info25 rfl (by decide) (by omega) u6 x6_1 t124 [.float .f64 t124] (fun _ => True) (fun _ => False) rfl rfl ?aP (fun _ hk => hk.elim) ?aF ?aO ?aB ?aS ?aL ?_; (case aP => exact rfl); (case aB => exact hbs); (case aF => exact (fun _ _ => trivial)); (case aO => exact (rUp HO_6.out)); (case aS => exact (below_size hbs)); (case aL => have := LMc17.out; omega); intro v127 w25 ho hb hg hat; rw [← Ny126.out] at ho; have n0_ := asd (Kd.R_over' (rUp HO_123001.out) (Kd.R_typed (rUp HO_6.out)) (by decide) hg); have n1_ := asd (blk_grown (g := gb122) (o := .cells #[.bool x123000_1, .slice Ao21 x123001_1.length co21, .int .i64 x123002_1] 41 (0, 0)) (blkU BK122.out) hg (Kd.R_ne HO_6.out BK122.out (by decide))); have n2_ := asd (hb); have n3_ := asd (ho); clear HO_123001; clear BK122; clear HB; clear HO_6; have HO_123001 := n0_; have BK122 := n1_; have HB := n2_; have HO128 := n3_; clear n0_ n1_ n2_ n3_; clear ho hb hg hat))
       have n0_ := asd (Kd.R_drew HO_123001.out)
       have n1_ := asd (Kd.R_drew HO128.out)
       have n2_ := asd (blk_drew BK122.out)
       have n3_ := asd (below_drew1 HB.out)
       clear HO_123001
       clear HO128
       clear BK122
       clear HB
       have HO_123001 := n0_
       have HO128 := n1_
       have BK122 := n2_
       have HB := n3_
       clear n0_ n1_ n2_ n3_
       refine start_ (n := 5) (S := fun w' => w'.cell? ⟨gb122, 0, none⟩ = some (.bool x123000_1) ∧ w'.cell? ⟨gb122, 1, none⟩ = some (.slice Ao21 x123001_1.length co21) ∧ w'.cell? ⟨gb122, 2, none⟩ = some (.int .i64 x123002_1)) (ds := [4]) #[false, false, false, false, false] (by kernel_rfl) rfl rfl ⟨(blk_cell BK122.out 0).trans rfl, (blk_cell BK122.out 1).trans rfl, (blk_cell BK122.out 2).trans rfl⟩ (fun hHeld => ?_)
       generalize w25.drew = w26 at HO_123001 HO128 BK122 HB hHeld ⊢
       refine pure_ (i := 1) (N := some 28) (v := ?_) (a' := ?_) #[false, true, false, false, false] rfl rfl (by kernel_rfl) (fun _ _ _ h => h) (Or.inl ⟨by rfl, ?_⟩) ?_ ?_
       rotate_left
       ·intro w'
        go_simp
        with_reducible rfl
       rotate_left
       ·simp only [Act.put, List.setIfInBounds_toArray, List.set_cons_zero, List.set_cons_succ, i64_w, i32_w]
        rfl
       refine take_ (i := 0) (N := some 27) (v := ?_) (a' := ?_) #[true, true, false, false, false] rfl rfl (by kernel_rfl) (fun _ _ _ h => h) (Or.inl ⟨by rfl, ?_⟩) hHeld ?_ ?_
       rotate_left
       ·rintro w' ⟨s0, s1, s2⟩
        go_simp
        with_reducible rfl
       rotate_left
       ·simp only [Act.put, List.setIfInBounds_toArray, List.set_cons_zero, List.set_cons_succ, i64_w, i32_w]
        rfl
       refine one_ (i := 2) (N := some 29) #[true, true, true, false, false] rfl rfl (by kernel_rfl) (by decide) (fun K hK => ?_)
       refine goes_ Tryz.func26 (by kernel_rfl) rfl #[.float .f64 t124] (by rfl) rfl rfl eqA ?_
       with_reducible refine (cuspref02_Float.calls k1 t124 t129 t130 t133 _ A18.out).mono ?_
       rintro e w27 ⟨v131, rfl, ho0, hb⟩
       refine ⟨_, rfl, ?_⟩
       have n0_ := asd (Kd.R_elder' (rUp HO_123001.out) (Kd.R_base ho0) hb)
       have n1_ := asd (Kd.R_below (rUp HO128.out) hb)
       have n2_ := asd (Kd.R_lower (Kd.R_new' ho0 (Kd.R_lt (rUp HO_123001.out))) (below_size hbs))
       have n3_ := asd (blk_below (g := gb122) (o := .cells #[.bool x123000_1, .slice Ao21 x123001_1.length co21, .int .i64 x123002_1] 41 (0, 0)) (blkU BK122.out) hb)
       have n4_ := asd (below_step hbs hb)
       clear HO_123001
       clear HO128
       clear BK122
       clear HB
       have HO_123001 := n0_
       have HO128 := n1_
       have HO132 := n2_
       have BK122 := n3_
       have HB := n4_
       clear n0_ n1_ n2_ n3_ n4_
       (try clear hb)
       (try clear hb2)
       (try clear hk)
       (try clear hi)
       (try clear ho0)
       obtain ⟨Ao28, co28, eo28⟩ := Kd.R_slice HO132.out
       (first | subst eo28 | (injection eo28 with f1_ f2_ f3_; have f4_ := f1_.symm; have f5_ := f3_.symm; clear f1_ f2_ f3_; subst f4_; subst f5_))
       refine hK.out _ _ ⟨(blk_cell BK122.out 0).trans rfl, (blk_cell BK122.out 1).trans rfl, (blk_cell BK122.out 2).trans rfl⟩ (fun hHeld => ?_)
       clear hK K
       refine norm_ (a' := ?_) ?_ ?_
       rotate_left
       ·show Act.put _ (some 29) _ = _
        simp only [Act.put, List.setIfInBounds_toArray, List.set_cons_zero, List.set_cons_succ, i64_w, i32_w]
        rfl
       refine one_ (i := 3) (N := some 30) #[true, true, true, true, false] rfl rfl (by kernel_rfl) (by decide) (fun K hK => ?_)
       refine goes_ Tryz.func31 (by kernel_rfl) rfl #[.agg #[.bool x123000_1, .slice Ao21 x123001_1.length co21, .int .i64 x123002_1], .agg #[.bool t129, .slice Ao28 t130.length co28, .int .i64 t133]] (by rfl) rfl rfl eqA ?_
       with_reducible refine (cuspref02_Less.calls x123000_1 _ _ x123001_1 x123002_1 t129 (fun k_ => some k_ = (.slice Ao28 t130.length co28 : Value).ownBlock) (.slice Ao28 t130.length co28) t130 t133 t134 t135 t138 w _ ?side1 ?side2 ?side3 ?side4 A19.out).mono ?_
       (case side1 => repeat (first | (with_reducible first | exact HB.out | apply below_alloc | apply pw_below_drewN | apply below_drew1 | refine below_set ?_ GE122.out) | exact HB.out))
       (case side2 => exact Kd.C_kept_own (HO_123001.out) (fun k_ hk_ hs_ => (hk_.2) hs_))
       (case side3 => exact (Kd.R_reads' HO_123001.out).2.1)
       (case side4 => exact Kd.R_tight rfl HO132.out)
       rintro e w29 ⟨v136, rfl, ho0, hb, hkp⟩
       refine ⟨_, rfl, ?_⟩
       have n0_ := asd (Kd.R_mono (ok' := fun k_ => some k_ ≠ (v136 : Value).ownBlock) (Kd.R_keptB (HO_123001.out) hkp (fun k_ hk_ hs_ => (hk_.2) hs_)) (fun k_ hk_ => fun e_ => Or.elim (ho0.1 k_ e_.symm) (fun hs_ => hk_.2.1 hs_) (fun hn_ => Nat.not_le.2 hk_.2.2 hn_)))
       have n1_ := asd (blk_kept (blkU BK122.out) hkp (fun hs_ => (fun e_ => (Kd.R_ne HO132.out BK122.out (by decide)) e_) hs_))
       have n2_ := asd (Kd.R_mono (ok' := fun k_ => True) (Kd.R_keptB ((Kd.R_apart' HO128.out (Kd.R_typed HO132.out) (by decide))) hkp (fun k_ hk_ hs_ => (hk_.2) hs_)) (fun k_ hk_ => trivial))
       have n3_ := asd (Kd.R_mono (ok' := fun k_ => some k_ ≠ (.slice Ao21 x123001_1.length co21 : Value).ownBlock) ho0 (fun k_ hk_ => Or.elim hk_ (fun hs_ => fun e_ => (((HO_123001.out).1 k_ e_.symm).2) hs_) (fun hn_ => (Kd.fresh' (Kd.R_lt (rUp HO_123001.out)) k_ hn_))))
       have n4_ := asd (hb)
       clear HO_123001
       clear BK122
       clear HO128
       clear HB
       clear HO132
       have HO_123001 := n0_
       have BK122 := n1_
       have HO128 := n2_
       have HO137 := n3_
       have HB := n4_
       clear n0_ n1_ n2_ n3_ n4_
       (try clear hb)
       (try clear hkp)
       (try clear ho0)
       obtain ⟨Ao31, co31, eo31⟩ := Kd.R_slice HO137.out
       (first | subst eo31 | (injection eo31 with f1_ f2_ f3_; have f4_ := f1_.symm; have f5_ := f3_.symm; clear f1_ f2_ f3_; subst f4_; subst f5_))
       refine hK.out _ _ ⟨(blk_cell BK122.out 0).trans rfl, (blk_cell BK122.out 1).trans rfl, (blk_cell BK122.out 2).trans rfl⟩ (fun hHeld => ?_)
       clear hK K
       refine norm_ (a' := ?_) ?_ ?_
       rotate_left
       ·show Act.put _ (some 30) _ = _
        simp only [Act.put, List.setIfInBounds_toArray, List.set_cons_zero, List.set_cons_succ, i64_w, i32_w]
        rfl
       refine last_ (i := 4) (N := none) #[true, true, true, true, true] rfl rfl (by kernel_rfl) (by decide) (fun K hK => ?_)
       have hs30 : w29.cell? ⟨gb122, 0, none⟩ = some (.bool x123000_1) := (blk_cell BK122.out 0).trans rfl
       have hfs30 := blk_frozen BK122.out 0
       have hs32 : w29.cell? ⟨gb122, 1, none⟩ = some (.slice Ao21 x123001_1.length co21) := (blk_cell BK122.out 1).trans rfl
       have hfs32 := blk_frozen BK122.out 1
       have hs33 : w29.cell? ⟨gb122, 2, none⟩ = some (.int .i64 x123002_1) := (blk_cell BK122.out 2).trans rfl
       have hfs33 := blk_frozen BK122.out 2
       refine skip_ (w1 := ?_) (by rfl) rfl ?_ ?_
       rotate_left
       ·go_simp
        rfl
       refine hK.out _ _ ?_
       clear hK K
       refine done_ (by kernel_rfl) ?_
       try go_wp2
       go_roundg k1
       case measure => have := HK1.out; omega
       case rel => exact ⟨(y126), (t134), (t135), (t138), (.slice Ao31 t135.length co31), H', ⟨by have := HK1.out; omega⟩, ⟨by (with_reducible repeat (first | apply Kd.R_alloc | apply Kd.R_drewN | apply Kd.R_drew)); exact Kd.R_mono (Kd.R_far (p := ⟨gb122, 2, none⟩) (Kd.R_far (p := ⟨gb122, 1, none⟩) (Kd.R_far (p := ⟨gb122, 0, none⟩) (Kd.R_types HO128.out BK122.out (by decide)) (fun _ hk => hk.2) (.bool t134)) (fun _ hk => hk.2) (.slice Ao31 t135.length co31)) (fun _ hk => hk.2) (.int .i64 t138)) (fun _ hk => trivial)⟩, ⟨by (with_reducible repeat (first | apply Kd.R_alloc | apply Kd.R_drewN | apply Kd.R_drew)); exact Kd.R_mono (Kd.R_far (p := ⟨gb122, 2, none⟩) (Kd.R_far (p := ⟨gb122, 1, none⟩) (Kd.R_far (p := ⟨gb122, 0, none⟩) (Kd.R_types HO137.out BK122.out (by decide)) (fun _ hk => hk.2) (.bool t134)) (fun _ hk => hk.2) (.slice Ao31 t135.length co31)) (fun _ hk => hk.2) (.int .i64 t138)) (fun _ hk => trivial)⟩, ⟨by (with_reducible repeat (first | refine blk_drewN ?_ _ | refine blk_drew ?_ | refine blk_alloc ?_ _)); refine blk_put (cs := #[.bool t134, .slice Ao31 t135.length co31, .int .i64 x123002_1]) ?_ 2 _ rfl; (with_reducible repeat (first | refine blk_drewN ?_ _ | refine blk_drew ?_ | refine blk_alloc ?_ _)); refine blk_put (cs := #[.bool t134, .slice Ao21 x123001_1.length co21, .int .i64 x123002_1]) ?_ 1 _ rfl; (with_reducible repeat (first | refine blk_drewN ?_ _ | refine blk_drew ?_ | refine blk_alloc ?_ _)); refine blk_put (cs := #[.bool x123000_1, .slice Ao21 x123001_1.length co21, .int .i64 x123002_1]) ?_ 0 _ rfl; (with_reducible repeat (first | refine blk_drewN ?_ _ | refine blk_drew ?_ | refine blk_alloc ?_ _)); exact BK122.out⟩, ⟨hbs⟩⟩
      ·rw [if_neg c17] at H
       exact absurd H (by simp)
     ·replace c16 := Bool.eq_false_iff.mpr c16
      subst c16
      rw [if_neg (show ¬ (false = true) by decide)] at H
      simp only [Option.some.injEq, Prod.mk.injEq] at H
      obtain ⟨rfl, rfl⟩ := H
      obtain ⟨hcz34_0, hcz34_1, hcz34_2, hfz34_0, hfz34_1, hfz34_2⟩ := cz3 BK122.out
      obtain ⟨Ao35, co35, eo35⟩ := Kd.R_slice HO_123001.out
      subst eo35
      go_wp2_with (first | ((with_reducible refine gate_callee (f := 32) rfl ?_); refine goesL_ (some 16) rfl rfl Tryz.func32 (by kernel_rfl) rfl #[.agg #[.bool x123000_1, .slice Ao35 x123001_1.length co35, .int .i64 x123002_1]] rfl eqA ?_; (with_reducible refine (cuspref02_Sgn.calls x123000_1 _ _ x123001_1 x123002_1 t123 _ ?side1 ?side2 A9.out).mono ?_); (case side1 => repeat (first | exact (Kd.R_reads' HO_123001.out).2.2 | (with_reducible refine Kd.C_alloc ?_ _) | (with_reducible refine Kd.C_drewN ?_ _) | (with_reducible refine Kd.C_drew ?_))); (case side2 => exact (Kd.R_reads' HO_123001.out).2.1); rintro e w36 ⟨rfl, hb⟩; refine ⟨_, rfl, ?_⟩; have n0_ := asd (Kd.R_below (rUp HO_6.out) hb); have n1_ := asd (Kd.R_below (rUp HO_123001.out) hb); have n2_ := asd (blk_below (g := gb122) (o := .cells #[.bool x123000_1, .slice Ao35 x123001_1.length co35, .int .i64 x123002_1] 41 (0, 0)) (blkU BK122.out) hb); have n3_ := asd (below_step hbs hb); clear HO_6; clear HO_123001; clear BK122; clear HB; have HO_6 := n0_; have HO_123001 := n1_; have BK122 := n2_; have HB := n3_; clear n0_ n1_ n2_ n3_; (try clear hb); obtain ⟨hcz37_0, hcz37_1, hcz37_2, hfz37_0, hfz37_1, hfz37_2⟩ := cz3 BK122.out) | ((with_reducible refine gate_callee (f := 82) rfl ?_); refine goesL_ (some 19) rfl rfl Tryz.func82 (by kernel_rfl) rfl #[.agg #[.bool x123000_1, .slice Ao35 x123001_1.length co35, .int .i64 x123002_1], .int .i64 2] rfl eqA ?_; (with_reducible refine (cuspref02_To.calls x123000_1 _ _ x123001_1 x123002_1 2 t124 _ ?side1 ?side2 A14.out).mono ?_); (case side1 => repeat (first | exact (Kd.R_reads' HO_123001.out).2.2 | (with_reducible refine Kd.C_alloc ?_ _) | (with_reducible refine Kd.C_drewN ?_ _) | (with_reducible refine Kd.C_drew ?_))); (case side2 => exact (Kd.R_reads' HO_123001.out).2.1); rintro e w38 ⟨rfl, hb⟩; refine ⟨_, rfl, ?_⟩; have n0_ := asd (Kd.R_below (rUp HO_6.out) hb); have n1_ := asd (Kd.R_below (rUp HO_123001.out) hb); have n2_ := asd (blk_below (g := gb122) (o := .cells #[.bool x123000_1, .slice Ao35 x123001_1.length co35, .int .i64 x123002_1] 41 (0, 0)) (blkU BK122.out) hb); have n3_ := asd (below_step hbs hb); clear HO_6; clear HO_123001; clear BK122; clear HB; have HO_6 := n0_; have HO_123001 := n1_; have BK122 := n2_; have HB := n3_; clear n0_ n1_ n2_ n3_; (try clear hb)) | ((with_reducible refine gate_callee (f := 24) rfl ?_); refine goesL_ (some 21) rfl rfl Tryz.func24 (by kernel_rfl) rfl #[.float .f64 t124] rfl eqA ?_; (with_reducible refine (cuspref01_Finite.calls t124 false _ A15.out).mono ?_); rintro e w' ⟨rfl, ⟨nd, rfl⟩⟩; refine ⟨_, rfl, ?_⟩))
      go_ret2
      exact ⟨_, eqC, by first | exact Kd.R_nil _ _ _ _ _ | exact Kd.N_nil _ _ _ _ _ | exact Kd.V_nil _ _ _ _ _ | exact Kd.Q_nil _ _ _ _ _ | exact Kd.S_nil _ _ _ _ _, hbs⟩
 ·rw [if_neg c3] at H
  have c3b0 := beq_eq_false_iff_ne.mpr c3
  have c3b1 := bne_iff_ne.mpr c3
  simp only [Option.some.injEq, Prod.mk.injEq] at H
  obtain ⟨rfl, rfl⟩ := H
  go_enter Tryz.func37, Tryz.ntmps37
  go_wp2_with (first | ((with_reducible refine gate_callee (f := 57) rfl ?_); refine goesL_ (some 9) rfl rfl Tryz.func57 (by kernel_rfl) rfl #[.slice A0 l0.length c0] rfl eqA ?_; (with_reducible refine (cuspref05_Fault.calls k _ _ l0 t116 _ ?side1 ?side2 A2.out).mono ?_); (case side1 => repeat (first | exact HR0.out | (with_reducible refine Kd.C_alloc ?_ _) | (with_reducible refine Kd.C_drewN ?_ _) | (with_reducible refine Kd.C_drew ?_))); (case side2 => exact HC0.out); rintro e w' ⟨rfl, ⟨nd, rfl⟩⟩; refine ⟨_, rfl, ?_⟩))
  go_ret2
  exact ⟨_, eqC, by first | exact Kd.R_nil _ _ _ _ _ | exact Kd.N_nil _ _ _ _ _ | exact Kd.V_nil _ _ _ _ _ | exact Kd.Q_nil _ _ _ _ _ | exact Kd.S_nil _ _ _ _ _, hbw⟩
end Go.Proofs.YthmeocigliephaaGreatDoor.PSe
end
section
namespace Go.Proofs.YthmeocigliephaaGreatDoor.PSd
open Go.Proofs.YthmeocigliephaaGreatDoor.PSu Go.Proofs.YthmeocigliephaaGreatDoor.PSv Go.RowKit Go.Proofs.YthmeocigliephaaGreatDoorW.PrintWords Go.Proofs.YthmeocigliephaaGreatDoorW.PrintLast Go.Proofs.YthmeocigliephaaGreatDoorW.PrintMore
attribute [local go_sem] f64bits_run f64from_run run_float_some max2_int min2_int max_two min_two max_three min_three max_four min_four
def errW : Option Int → Value
 | none => .nilIface
 | some c => .iface 0 (.int .i64 c)
theorem errW_none : errW none = .nilIface := rfl
theorem errW_some (c : Int) : errW (some c) = .iface 0 (.int .i64 c) := rfl
end Go.Proofs.YthmeocigliephaaGreatDoor.PSd
end
section
namespace Go.Proofs.YthmeocigliephaaGreatDoor.PSd
open Go.Proofs.YthmeocigliephaaGreatDoor.PSu Go.Proofs.YthmeocigliephaaGreatDoor.PSv Go.RowKit Go.Proofs.YthmeocigliephaaGreatDoorW.PrintWords Go.Proofs.YthmeocigliephaaGreatDoorW.PrintLast Go.Proofs.YthmeocigliephaaGreatDoorW.PrintMore
attribute [local go_sem] f64bits_run f64from_run run_float_some max2_int min2_int max_two min_two max_three min_three max_four min_four
mutual
def cuspref02_product.j0 : Nat → List Int → List Int → Bool → Option (List Int)
 | 0, _, _, _ => none
 | k + 1, x0, x1, x17 => if x17 = true then (some ([] : List Int)) else (if 0 ≤ (wrap64 ((x0.length : Int) + (x1.length : Int))) then (if (wrap64 ((x0.length : Int) + (x1.length : Int)) : Int).toNat ≤ 70368744177664 then (cuspref02_product.l0 k x0 x1 (List.replicate (wrap64 ((x0.length : Int) + (x1.length : Int)) : Int).toNat 0) 0) else (none)) else (none))
def cuspref02_product.l0 : Nat → List Int → List Int → List Int → Int → Option (List Int)
 | 0, _, _, _, _ => none
 | k + 1, x0, x1, x5, x6 => if x6 < (x0.length : Int) then (cuspref02_product.l1 k x0 x1 x5 x6 0 0) else ((cuspref02_trim.f k x5).bind fun t126 => (some t126))
def cuspref02_product.l1 : Nat → List Int → List Int → List Int → Int → Int → Int → Option (List Int)
 | 0, _, _, _, _, _, _ => none
 | k + 1, x0, x1, x5, x6, x7, x8 => if x8 < (x1.length : Int) then (if 0 ≤ x6 then (if x6 < (x0.length : Int) then (if 0 ≤ x8 then (if 0 ≤ (wrap64 (x6 + x8)) then (if (wrap64 (x6 + x8)) < (x5.length : Int) then (cuspref02_product.l1 k x0 x1 (x5.set ((wrap64 (x6 + x8)) : Int).toNat ((IntKind.u64.wrap ((IntKind.u64.wrap ((IntKind.u64.wrap ((IntKind.u64.wrap (rd x0 x6)) * (IntKind.u64.wrap (rd x1 x8)))) + (IntKind.u64.wrap (rd x5 (wrap64 (x6 + x8)))))) + x7)) % 4294967296)) x6 ((IntKind.u64.wrap ((IntKind.u64.wrap ((IntKind.u64.wrap ((IntKind.u64.wrap (rd x0 x6)) * (IntKind.u64.wrap (rd x1 x8)))) + (IntKind.u64.wrap (rd x5 (wrap64 (x6 + x8)))))) + x7)) / 4294967296) (wrap64 (x8 + 1))) else (none)) else (none)) else (none)) else (none)) else (none)) else (if 0 ≤ (wrap64 (x6 + (x1.length : Int))) then (if (wrap64 (x6 + (x1.length : Int))) < (x5.length : Int) then (cuspref02_product.l0 k x0 x1 (x5.set ((wrap64 (x6 + (x1.length : Int))) : Int).toNat ((x7) % 4294967296)) (wrap64 (x6 + 1))) else (none)) else (none))
end
def cuspref02_product.f (k : Nat) (l0 : List Int) (l1 : List Int) : Option (List Int) := if (l0.length : Int) = 0 then (cuspref02_product.j0 k l0 l1 true) else (cuspref02_product.j0 k l0 l1 ((l1.length : Int) == 0))
def cuspref02_Times.f (k : Nat) (a0_0 : Bool) (l0_1 : List Int) (a0_2 : Int) (a1_0 : Bool) (l1_1 : List Int) (a1_2 : Int) : Option (Bool × List Int × Int) := (cuspref02_product.f k l0_1 l1_1).bind fun t137 => ((cuspref02_norm.f k (a0_0 != a1_0) t137 (wrap64 (a0_2 + a1_2))).bind fun bt140 => (some (bt140.1, bt140.2.1, bt140.2.2)))
end Go.Proofs.YthmeocigliephaaGreatDoor.PSd
end
section
namespace Go.Proofs.YthmeocigliephaaGreatDoor.PSd
open Go.Proofs.YthmeocigliephaaGreatDoor.PSu Go.Proofs.YthmeocigliephaaGreatDoor.PSv Go.RowKit Go.Proofs.YthmeocigliephaaGreatDoorW.PrintWords Go.Proofs.YthmeocigliephaaGreatDoorW.PrintLast Go.Proofs.YthmeocigliephaaGreatDoorW.PrintMore
attribute [local go_sem] f64bits_run f64from_run run_float_some max2_int min2_int max_two min_two max_three min_three max_four min_four
mutual
def cuspref05_Dot.j0 : Nat → List Nat → List Nat → Int → Bool → Option (Nat × Int)
 | 0, _, _, _, _ => none
 | k + 1, x0, x1, x2, x22 => if x22 = true then (some ((0 : Nat), 1)) else (if ([] : List Nat).length + x0.length < 17592186044416 then ((cuspref05_Fault.f k x0).bind fun t149 => (if t149 = 2 then (cuspref05_Dot.j2 k x0 x1 x2 t149) else ((cuspref05_Fault.f k x1).bind fun t150 => (if t149 = 4 then (cuspref05_Dot.j1 k x0 x1 x2 t149 t150 true) else (cuspref05_Dot.j1 k x0 x1 x2 t149 t150 (t150 == 4)))))) else (none))
def cuspref05_Dot.j2 : Nat → List Nat → List Nat → Int → Int → Option (Nat × Int)
 | 0, _, _, _, _ => none
 | k + 1, x0, x1, x2, x9 => if x9 = 0 then (cuspref05_Dot.l0 k x0 x1 x2 0 false ([] : List Int) 0) else (some ((0 : Nat), x9))
def cuspref05_Dot.l0 : Nat → List Nat → List Nat → Int → Int → Bool → List Int → Int → Option (Nat × Int)
 | 0, _, _, _, _, _, _, _ => none
 | k + 1, x0, x1, x2, x12, x152000, x152001, x152002 => if x12 < (x0.length : Int) then (if 0 ≤ x12 then ((cuspref02_Float.f k (rdOf (0 : Nat) x0 x12)).bind fun bt154 => (if x12 < (x1.length : Int) then ((cuspref02_Float.f k (rdOf (0 : Nat) x1 x12)).bind fun bt160 => ((cuspref02_Times.f k bt154.1 bt154.2.1 bt154.2.2 bt160.1 bt160.2.1 bt160.2.2).bind fun bt165 => ((cuspref02_Plus.f x152000 x152001 x152002 bt165.1 bt165.2.1 bt165.2.2).bind fun bt170 => (cuspref05_Dot.l0 k x0 x1 x2 (wrap64 (x12 + 1)) bt170.1 bt170.2.1 bt170.2.2)))) else (none))) else (none)) else ((cuspref03_R.f x152000 x152001 x152002 x2 (0 : Nat)).bind fun t152 => (some (t152, 0)))
def cuspref05_Dot.j1 : Nat → List Nat → List Nat → Int → Int → Int → Bool → Option (Nat × Int)
 | 0, _, _, _, _, _, _ => none
 | k + 1, x0, x1, x2, x9, x10, x32 => if x32 = true then (cuspref05_Dot.j2 k x0 x1 x2 4) else (if x10 = 0 then (cuspref05_Dot.j2 k x0 x1 x2 x9) else (cuspref05_Dot.j2 k x0 x1 x2 x10))
end
def cuspref05_Dot.f (k : Nat) (l0 : List Nat) (l1 : List Nat) (a2 : Int) : Option (Nat × Int) := (cuspref03_Valid.f a2).bind fun t145 => (if t145 = 0 then (cuspref05_Dot.j0 k l0 l1 a2 ((l0.length : Int) != (l1.length : Int))) else (cuspref05_Dot.j0 k l0 l1 a2 true))
end Go.Proofs.YthmeocigliephaaGreatDoor.PSd
end
section
namespace Go.Proofs.YthmeocigliephaaGreatDoor.PSd
open Go.Proofs.YthmeocigliephaaGreatDoor.PSu Go.Proofs.YthmeocigliephaaGreatDoor.PSv Go.RowKit Go.Proofs.YthmeocigliephaaGreatDoorW.PrintWords Go.Proofs.YthmeocigliephaaGreatDoorW.PrintLast Go.Proofs.YthmeocigliephaaGreatDoorW.PrintMore
attribute [local go_sem] f64bits_run f64from_run run_float_some max2_int min2_int max_two min_two max_three min_three max_four min_four
def cuspref05_Lost.j0 : Nat → List Nat → Nat → Int → Int → Bool → Option (Nat × Int)
 | 0, _, _, _, _, _ => none
 | k + 1, x0, x1, x6, x7, x17 => if x17 = true then (some ((0 : Nat), 4)) else (if x6 = 0 then (if x7 = 0 then ((cuspref05_Total.f k x0).bind fun bt195 => ((cuspref02_Float.f k x1).bind fun bt200 => ((cuspref02_Less.f bt195.1 bt195.2.1 bt195.2.2 bt200.1 bt200.2.1 bt200.2.2).bind fun bt205 => ((cuspref03_R.f false bt205.2.1 bt205.2.2 3 (0 : Nat)).bind fun t211 => (some (t211, 0)))))) else (some ((0 : Nat), 5))) else (some ((0 : Nat), 5)))
def cuspref05_Lost.f (k : Nat) (l0 : List Nat) (a1 : Nat) : Option (Nat × Int) := (cuspref05_Fault.f k l0).bind fun t190 => (if t190 = 2 then (some ((0 : Nat), t190)) else ((cuspref05_Fault.f k (([a1] : List Nat))).bind fun t194 => (if t190 = 4 then (cuspref05_Lost.j0 k l0 a1 t190 t194 true) else (cuspref05_Lost.j0 k l0 a1 t190 t194 (t194 == 4)))))
theorem cuspref05_Lost.calls (k : Nat) (A0 : Option Addr) (c0 : Nat) (l0 : List Nat) (a1 : Nat) (r1 : Nat) (r2 : Int) (w : World) (hr0 : Kd.C Kd.float w A0 l0.length l0) (hc0 : l0.length ≤ c0) (h : cuspref05_Lost.f k l0 a1 = some (r1, r2)) :
  Calls Tryz.prog 36 #[.slice A0 l0.length c0, .float .f64 a1] w fun e w' => e = .returned (.tuple #[.float .f64 r1, .int .i64 r2]) ∧ Below w.heap.size w w' := by
 have hu41 := Tryz.underlying41
 have HR0 := asd hr0
 have HC0 := asd hc0
 clear hr0 hc0
 have HB := asd (Below.refl w.heap.size w)
 have H := h
 clear h
 unfold cuspref05_Lost.f at H
 replace H := Option.bind_eq_some_iff.mp H
 obtain ⟨t190, A30, H⟩ := H
 have A3 := asd A30
 clear A30
 by_cases c4 : t190 = 2
 ·rw [if_pos c4] at H
  have c4b0 := beq_iff_eq.mpr c4
  have c4b1 := bne_eq_false_iff_eq.mpr c4
  clear c4
  simp only [Option.some.injEq, Prod.mk.injEq] at H
  obtain ⟨rfl, rfl⟩ := H
  go_enter Tryz.func36, Tryz.ntmps36
  go_wp2_with (first | ((with_reducible refine gate_callee (f := 57) rfl ?_); refine goesL_ (some 10) rfl rfl Tryz.func57 (by kernel_rfl) rfl #[.slice A0 l0.length c0] rfl eqA ?_; (with_reducible refine (cuspref05_Fault.calls k _ _ l0 t190 _ ?side1 ?side2 A3.out).mono ?_); (case side1 => repeat (first | exact HR0.out | (with_reducible refine Kd.C_alloc ?_ _) | (with_reducible refine Kd.C_drewN ?_ _) | (with_reducible refine Kd.C_drew ?_))); (case side2 => exact HC0.out); rintro e w' ⟨rfl, ⟨nd, rfl⟩⟩; refine ⟨_, rfl, ?_⟩))
  go_ret2
  exact ⟨eqC, hbw⟩
 ·rw [if_neg c4] at H
  have c4b0 := beq_eq_false_iff_ne.mpr c4
  have c4b1 := bne_iff_ne.mpr c4
  obtain ⟨y191, hy191⟩ : ∃ y_ : List Nat, y_ = (([a1] : List Nat)) := ⟨_, rfl⟩
  try rw [Option.bind_some] at H
  try rw [← hy191] at H
  have Ny191 := asd hy191
  clear hy191
  replace H := Option.bind_eq_some_iff.mp H
  obtain ⟨t194, A50, H⟩ := H
  have A5 := asd A50
  clear A50
  have HC6 := asd H
  clear H
  go_enter Tryz.func36, Tryz.ntmps36
  go_upto_region 5 with (first | ((with_reducible refine gate_callee (f := 57) rfl ?_); refine goesL_ (some 10) rfl rfl Tryz.func57 (by kernel_rfl) rfl #[.slice A0 l0.length c0] rfl eqA ?_; (with_reducible refine (cuspref05_Fault.calls k _ _ l0 t190 _ ?side1 ?side2 A3.out).mono ?_); (case side1 => repeat (first | exact HR0.out | (with_reducible refine Kd.C_alloc ?_ _) | (with_reducible refine Kd.C_drewN ?_ _) | (with_reducible refine Kd.C_drew ?_))); (case side2 => exact HC0.out); rintro e w' ⟨rfl, ⟨nd, rfl⟩⟩; refine ⟨_, rfl, ?_⟩) | ((with_reducible refine gate_dst (N := 15) rfl ?_); refine Kd.R_lit Kd.float _ 25 ?hg (N := 15) ?hd (xs := ([a1] : List Nat)) (inner := [.float .f64 a1]) (ok := fun _ => True) (okp := fun _ => True) ?hr ?hp (fun _ hk => hk) trivial (Below.refl _ _) (Nat.le_refl _) (by simp) ?_; (case hd => rfl); (case hg => rfl); (case hr => first | (go_simp; done) | (go_simp; rfl)); (case hp => exact (Reps.one (show Kd.M Kd.float _ _ _ a1 [.float .f64 a1] from rfl) (Reps.none _ _))); intro v192 w7 ho8 hb hg_ hnew_; clear hg_ hnew_; (first | rw [← Ny191.out] at ho8 | (simp only [Int.reduceToNat] at ho8; rw [← Ny191.out] at ho8)); have n0_ := asd (Kd.R_lower ho8 (below_size hbw)); have n1_ := asd (below_step hbw hb); clear HB; have HO193 := n0_; have HB := n1_; clear n0_ n1_; clear hb ho8; obtain ⟨Ao9, co9, eo9⟩ := Kd.R_slice HO193.out; subst eo9) | ((with_reducible refine gate_callee (f := 57) rfl ?_); refine goesL_ (some 16) rfl rfl Tryz.func57 (by kernel_rfl) rfl #[.slice Ao9 y191.length co9] rfl eqA ?_; (with_reducible refine (cuspref05_Fault.calls k _ _ y191 t194 _ ?side1 ?side2 A5.out).mono ?_); (case side1 => repeat (first | exact (Kd.R_reads' HO193.out).2.2 | (with_reducible refine Kd.C_alloc ?_ _) | (with_reducible refine Kd.C_drewN ?_ _) | (with_reducible refine Kd.C_drew ?_))); (case side2 => exact (Kd.R_reads' HO193.out).2.1); rintro e w' ⟨rfl, ⟨nd, rfl⟩⟩; refine ⟨_, rfl, ?_⟩))
  (try simp only [Act.put, List.setIfInBounds_toArray, List.set_cons_zero, List.set_cons_succ])
  go_cut [17] (fun v17 wc => ∃ (kq : Nat) (x17_5 : Bool), v17 = .bool x17_5 ∧ Aside0 (cuspref05_Lost.j0 kq l0 a1 t190 t194 x17_5 = some (r1, r2)) ∧ Aside0 (kq ≤ k) ∧ Aside0 (Below w.heap.size w wc))
  case first =>
   have H := HC6.out
   clear HC6
   by_cases c10 : t190 = 4
   ·rw [if_pos c10] at H
    have c10b0 := beq_iff_eq.mpr c10
    have c10b1 := bne_eq_false_iff_eq.mpr c10
    clear c10
    (first | rw [c10b0] | (simp only [i64_w, i32_w]; rw [c10b0]) | skip)
    have H' := asd H
    clear H
    go_wp2
    go_meet
    case rel => exact ⟨_, (true), eqB, H', ⟨by first | omega | exact Nat.le_refl _⟩, ⟨hbw⟩⟩
   ·rw [if_neg c10] at H
    have c10b0 := beq_eq_false_iff_ne.mpr c10
    have c10b1 := bne_iff_ne.mpr c10
    (first | rw [c10b0] | (simp only [i64_w, i32_w]; rw [c10b0]) | skip)
    have H' := asd H
    clear H
    go_wp2
    go_meet
    case rel => exact ⟨_, ((t194 == 4)), eqB, H', ⟨by first | omega | exact Nat.le_refl _⟩, ⟨hbw⟩⟩
  case rest =>
   clear HC6
   try clear c1
   try clear p2
   try clear c3
   try clear c4
   try clear c4b0
   try clear c4b1
   try clear c5
   try clear c10
   try clear c10b0
   try clear c10b1
   obtain ⟨kq, x17_5, rfl, HA, HJ5, HB⟩ := hcut
   cases kq with
   | zero => exact absurd HA.out (by simp [cuspref05_Lost.j0])
   | succ kj5 =>
    have H := HA.out
    clear HA
    simp only [cuspref05_Lost.j0] at H
    by_cases c11 : x17_5 = true
    ·subst c11
     rw [if_pos rfl] at H
     simp only [Option.some.injEq, Prod.mk.injEq] at H
     obtain ⟨rfl, rfl⟩ := H
     go_wp2
     go_ret2
     exact ⟨eqC, hbw⟩
    ·replace c11 := Bool.eq_false_iff.mpr c11
     subst c11
     rw [if_neg (show ¬ (false = true) by decide)] at H
     by_cases c12 : t190 = 0
     ·rw [if_pos c12] at H
      have c12b0 := beq_iff_eq.mpr c12
      have c12b1 := bne_eq_false_iff_eq.mpr c12
      clear c12
      by_cases c13 : t194 = 0
      ·rw [if_pos c13] at H
       have c13b0 := beq_iff_eq.mpr c13
       have c13b1 := bne_eq_false_iff_eq.mpr c13
       clear c13
       replace H := Option.bind_eq_some_iff.mp H
       obtain ⟨⟨t195, t196, t199⟩, A140, H⟩ := H
       replace H : ((cuspref02_Float.f kj5 a1).bind fun bt200 => ((cuspref02_Less.f t195 t196 t199 bt200.1 bt200.2.1 bt200.2.2).bind fun bt205 => ((cuspref03_R.f false bt205.2.1 bt205.2.2 3 (0 : Nat)).bind fun t211 => (some (t211, 0))))) = some (r1, r2) := H
       have A14 := asd A140
       clear A140
       replace H := Option.bind_eq_some_iff.mp H
       obtain ⟨⟨t200, t201, t204⟩, A150, H⟩ := H
       replace H : ((cuspref02_Less.f t195 t196 t199 t200 t201 t204).bind fun bt205 => ((cuspref03_R.f false bt205.2.1 bt205.2.2 3 (0 : Nat)).bind fun t211 => (some (t211, 0)))) = some (r1, r2) := H
       have A15 := asd A150
       clear A150
       replace H := Option.bind_eq_some_iff.mp H
       obtain ⟨⟨t205, t206, t209⟩, A160, H⟩ := H
       replace H : ((cuspref03_R.f false t206 t209 3 (0 : Nat)).bind fun t211 => (some (t211, 0))) = some (r1, r2) := H
       have A16 := asd A160
       clear A160
       replace H := Option.bind_eq_some_iff.mp H
       obtain ⟨t211, A170, H⟩ := H
       have A17 := asd A170
       clear A170
       simp only [Option.some.injEq, Prod.mk.injEq] at H
       obtain ⟨rfl, rfl⟩ := H
       go_wp2_with (first | ((with_reducible refine gate_callee (f := 60) rfl ?_); refine goesL_ (some 32) rfl rfl Tryz.func60 (by kernel_rfl) rfl #[.slice A0 l0.length c0] rfl eqA ?_; (with_reducible refine (cuspref05_Total.calls kj5 _ _ l0 t195 t196 t199 _ ?side1 ?side2 A14.out).mono ?_); (case side1 => repeat (first | exact (Kd.C_below HR0.out HB.out) | (with_reducible refine Kd.C_alloc ?_ _) | (with_reducible refine Kd.C_drewN ?_ _) | (with_reducible refine Kd.C_drew ?_))); (case side2 => exact HC0.out); rintro e w18 ⟨v197, rfl, ho0, hb⟩; refine ⟨_, rfl, ?_⟩; have n0_ := asd (Kd.R_lower ho0 (below_size hbw)); have n1_ := asd (below_step hbw hb); clear HB; have HO198 := n0_; have HB := n1_; clear n0_ n1_; (try clear hb); (try clear ho0)) | ((with_reducible refine gate_callee (f := 26) rfl ?_); refine goesL_ (some 34) rfl rfl Tryz.func26 (by kernel_rfl) rfl #[.float .f64 a1] rfl eqA ?_; (with_reducible refine (cuspref02_Float.calls kj5 a1 t200 t201 t204 _ A15.out).mono ?_); rintro e w19 ⟨v202, rfl, ho0, hb⟩; refine ⟨_, rfl, ?_⟩; have n0_ := asd (Kd.R_elder' (rUp HO198.out) (Kd.R_base ho0) hb); have n1_ := asd (Kd.R_lower (Kd.R_new' ho0 (Kd.R_lt (rUp HO198.out))) (below_size hbw)); have n2_ := asd (below_step hbw hb); clear HO198; clear HB; have HO198 := n0_; have HO203 := n1_; have HB := n2_; clear n0_ n1_ n2_; (try clear hb); (try clear ho0); obtain ⟨Ao20, co20, eo20⟩ := Kd.R_slice HO198.out; subst eo20; obtain ⟨Ao21, co21, eo21⟩ := Kd.R_slice HO203.out; subst eo21) | ((with_reducible refine gate_callee (f := 31) rfl ?_); refine goesL_ (some 35) rfl rfl Tryz.func31 (by kernel_rfl) rfl #[.agg #[.bool t195, .slice Ao20 t196.length co20, .int .i64 t199], .agg #[.bool t200, .slice Ao21 t201.length co21, .int .i64 t204]] rfl eqA ?_; (with_reducible refine (cuspref02_Less.calls t195 _ _ t196 t199 t200 (fun k_ => some k_ = (.slice Ao21 t201.length co21 : Value).ownBlock) (.slice Ao21 t201.length co21) t201 t204 t205 t206 t209 w _ ?side1 ?side2 ?side3 ?side4 A16.out).mono ?_); (case side1 => repeat (first | (with_reducible first | exact HB.out | apply below_alloc | apply pw_below_drewN | apply below_drew1) | exact HB.out)); (case side2 => exact Kd.C_kept_own (HO198.out) (fun k_ hk_ hs_ => (hk_.2) hs_)); (case side3 => exact (Kd.R_reads' HO198.out).2.1); (case side4 => exact Kd.R_tight rfl HO203.out); rintro e w22 ⟨v207, rfl, ho0, hb, hkp⟩; refine ⟨_, rfl, ?_⟩; have n0_ := asd (Kd.R_mono (ok' := fun k_ => some k_ ≠ (v207 : Value).ownBlock) (Kd.R_keptB (HO198.out) hkp (fun k_ hk_ hs_ => (hk_.2) hs_)) (fun k_ hk_ => fun e_ => Or.elim (ho0.1 k_ e_.symm) (fun hs_ => hk_.2.1 hs_) (fun hn_ => Nat.not_le.2 hk_.2.2 hn_))); have n1_ := asd (Kd.R_mono (ok' := fun k_ => some k_ ≠ (.slice Ao20 t196.length co20 : Value).ownBlock) ho0 (fun k_ hk_ => Or.elim hk_ (fun hs_ => fun e_ => (((HO198.out).1 k_ e_.symm).2) hs_) (fun hn_ => (Kd.fresh' (Kd.R_lt (rUp HO198.out)) k_ hn_)))); have n2_ := asd (hb); clear HO198; clear HB; clear HO203; have HO198 := n0_; have HO208 := n1_; have HB := n2_; clear n0_ n1_ n2_; (try clear hb); (try clear hkp); (try clear ho0)) | ((with_reducible refine gate_dst (N := 8) rfl ?_); refine box_event ?hg (N := 8) ?hd (cs := #[.bool false, .slice none 0 0, .int .i64 0]) (t := 41) ?hr ?_; (case hd => rfl); (case hg => rfl); (case hr => first | (go_simp; done) | (go_simp; rfl)); intro gb210 hg w23 hbox hb; have n0_ := asd (Kd.R_below (rUp HO198.out) hb); have n1_ := asd (Kd.R_below (rUp HO208.out) hb); have n2_ := asd (below_step hbw hb); have n3_ := asd (hbox); have n4_ := asd ((by rw [hg]; exact (below_size hbw) : w.heap.size ≤ gb210)); have n5_ := asd ((by rw [hg]; exact (below_size hbw) : w.heap.size ≤ gb210)); clear HO198; clear HO208; clear HB; have HO198 := n0_; have HO208 := n1_; have HB := n2_; have BK210 := n3_; have GW210 := n4_; have GE210 := n5_; clear n0_ n1_ n2_ n3_ n4_ n5_; clear hb hbox hg; obtain ⟨hcz24_0, hcz24_1, hcz24_2, hfz24_0, hfz24_1, hfz24_2⟩ := cz3 BK210.out; obtain ⟨Ao25, co25, eo25⟩ := Kd.R_slice HO208.out; subst eo25) | ((with_reducible refine gate_callee (f := 48) rfl ?_); refine goesL_ (some 41) rfl rfl Tryz.func48 (by kernel_rfl) rfl #[.agg #[.bool false, .slice Ao25 t206.length co25, .int .i64 t209], .int .i64 3, .float .f64 (0 : Nat)] rfl eqA ?_; (with_reducible refine (cuspref03_R.calls false _ _ t206 t209 3 (0 : Nat) t211 _ ?side1 ?side2 A17.out).mono ?_); (case side1 => refine (Kd.R_reads' (e := 83) (base := w.heap.size) (ok := fun k_ => some k_ ≠ (.slice Ao20 t196.length co20 : Value).ownBlock) (n := t206.length) (c := co25) ?_).2.2; exact (by (with_reducible repeat (first | apply Kd.R_alloc | apply Kd.R_drewN | apply Kd.R_drew)); exact (Kd.R_mono (Kd.R_far (p := ⟨gb210, 2, none⟩) (Kd.R_far (p := ⟨gb210, 1, none⟩) (Kd.R_far (p := ⟨gb210, 0, none⟩) (Kd.R_types HO208.out BK210.out (by decide)) (fun _ hk => hk.2) (.bool t205)) (fun _ hk => hk.2) (.slice Ao25 t206.length co25)) (fun _ hk => hk.2) (.int .i64 t209)) (fun _ h_ => h_.1)))); (case side2 => exact (Kd.R_reads' HO208.out).2.1); rintro e w26 ⟨rfl, hb⟩; refine ⟨_, rfl, ?_⟩; have n0_ := asd (Kd.R_below (by (with_reducible repeat (first | apply Kd.R_alloc | apply Kd.R_drewN | apply Kd.R_drew)); exact (Kd.R_mono (Kd.R_far (p := ⟨gb210, 2, none⟩) (Kd.R_far (p := ⟨gb210, 1, none⟩) (Kd.R_far (p := ⟨gb210, 0, none⟩) (Kd.R_types HO198.out BK210.out (by decide)) (fun _ hk => hk.2) (.bool t205)) (fun _ hk => hk.2) (.slice Ao25 t206.length co25)) (fun _ hk => hk.2) (.int .i64 t209)) (fun _ h_ => h_.1))) hb); have n1_ := asd (Kd.R_below (by (with_reducible repeat (first | apply Kd.R_alloc | apply Kd.R_drewN | apply Kd.R_drew)); exact (Kd.R_mono (Kd.R_far (p := ⟨gb210, 2, none⟩) (Kd.R_far (p := ⟨gb210, 1, none⟩) (Kd.R_far (p := ⟨gb210, 0, none⟩) (Kd.R_types HO208.out BK210.out (by decide)) (fun _ hk => hk.2) (.bool t205)) (fun _ hk => hk.2) (.slice Ao25 t206.length co25)) (fun _ hk => hk.2) (.int .i64 t209)) (fun _ h_ => h_.1))) hb); have n2_ := asd (blk_below (g := gb210) (o := .cells #[.bool t205, .slice Ao25 t206.length co25, .int .i64 t209] 41 (0, 0)) (by (with_reducible repeat (first | refine blk_drewN ?_ _ | refine blk_drew ?_ | refine blk_alloc ?_ _)); refine blk_put (cs := #[.bool t205, .slice Ao25 t206.length co25, .int .i64 0]) ?_ 2 _ rfl; (with_reducible repeat (first | refine blk_drewN ?_ _ | refine blk_drew ?_ | refine blk_alloc ?_ _)); refine blk_put (cs := #[.bool t205, .slice none 0 0, .int .i64 0]) ?_ 1 _ rfl; (with_reducible repeat (first | refine blk_drewN ?_ _ | refine blk_drew ?_ | refine blk_alloc ?_ _)); refine blk_put (cs := #[.bool false, .slice none 0 0, .int .i64 0]) ?_ 0 _ rfl; (with_reducible repeat (first | refine blk_drewN ?_ _ | refine blk_drew ?_ | refine blk_alloc ?_ _)); exact BK210.out) hb); have n3_ := asd (below_step hbs hb); clear HO198; clear HO208; clear BK210; clear HB; have HO198 := n0_; have HO208 := n1_; have BK210 := n2_; have HB := n3_; clear n0_ n1_ n2_ n3_; (try clear hb)))
       go_ret2
       exact ⟨eqC, hbs⟩
      ·rw [if_neg c13] at H
       have c13b0 := beq_eq_false_iff_ne.mpr c13
       have c13b1 := bne_iff_ne.mpr c13
       simp only [Option.some.injEq, Prod.mk.injEq] at H
       obtain ⟨rfl, rfl⟩ := H
       go_wp2
       go_ret2
       exact ⟨eqC, hbw⟩
     ·rw [if_neg c12] at H
      have c12b0 := beq_eq_false_iff_ne.mpr c12
      have c12b1 := bne_iff_ne.mpr c12
      simp only [Option.some.injEq, Prod.mk.injEq] at H
      obtain ⟨rfl, rfl⟩ := H
      go_wp2
      go_ret2
      exact ⟨eqC, hbw⟩
end Go.Proofs.YthmeocigliephaaGreatDoor.PSd
end
section
namespace Go.Proofs.YthmeocigliephaaGreatDoor.Big
open Go.Proofs.YthmeocigliephaaGreatDoor.PSu Go.Proofs.YthmeocigliephaaGreatDoor.Plain Ieee
def rndE (z e mode : Int) : Nat := if z = 0 then 0 else roundV (canN z e).1 (val (canN z e).2.1) (canN z e).2.2 mode
theorem to_can_e {z e mode : Int} (h1 : bl z.natAbs ≤ 60000) (he : -60000 ≤ e ∧ e ≤ 60000) (hm : 1 ≤ mode ∧ mode ≤ 3) : cuspref02_To.f (canN z e).1 (canN z e).2.1 (canN z e).2.2 mode = some (rndE z e mode) := by
  unfold cuspref02_To.f rndE
  rw [if_pos ⟨isO_can (by omega) (by omega) (by omega), hm.1, hm.2⟩]
  by_cases h : z = 0
  · rw [if_pos (can_length.2 h), if_pos h]
  · rw [if_neg (fun h' => h (can_length.1 h')), if_neg h]
theorem rR_e {z e mode : Int} (h1 : bl z.natAbs ≤ 60000) (he : -60000 ≤ e ∧ e ≤ 60000) (hm : 1 ≤ mode ∧ mode ≤ 3) : cuspref03_R.f (canN z e).1 (canN z e).2.1 (canN z e).2.2 mode (0 : Nat) = some (rndE z e mode) := by
  unfold cuspref03_R.f cuspref02_Sgn.f
  by_cases h : z = 0
  · rw [if_pos (by have := (can_length (e := e)).2 h; omega), Option.bind_some, if_pos rfl]
    unfold rndE
    rw [if_pos h]
  · rw [if_neg (fun h' => h ((can_length (e := e)).1 (by omega)))]
    have : ∀ s : Option Int, s = (if (canN z e).1 = true then some (-1) else some 1) → (s.bind fun t => if t = 0 then some (0 : Nat) else (cuspref02_To.f (canN z e).1 (canN z e).2.1 (canN z e).2.2 mode).bind fun t => some t) = some (rndE z e mode) := by
      intro s hs
      rw [hs, to_can_e h1 he hm]
      split <;> rfl
    exact this _ rfl
def faultT (l m : List Nat) : Int := if 65536 < l.length ∨ 65536 < m.length then 2 else if l.any nanB = true ∨ m.any nanB = true then 4 else if l.any infB? = true ∨ m.any infB? = true then 5 else 0
end Go.Proofs.YthmeocigliephaaGreatDoor.Big
end
section
namespace Go.Proofs.YthmeocigliephaaGreatDoor.Big
open Go.Proofs.YthmeocigliephaaGreatDoor.PSu Go.Proofs.YthmeocigliephaaGreatDoor.Plain Ieee
theorem round_e {z e mode : Int} (h1 : bl z.natAbs ≤ 60000) (he : -5000 ≤ e ∧ e ≤ 4000) (hm : 1 ≤ mode ∧ mode ≤ 3) : dyad_Round.f (canN z e).1 (canN z e).2.1 (canN z e).2.2 mode = some (rndE z e mode, 0) := by
  unfold dyad_Round.f roundN rndE
  rw [if_pos (isN_can (by omega) (by omega) (by omega)), if_pos hm]
  by_cases h : z = 0
  · rw [if_pos (can_length.2 h), if_pos h]
  · rw [if_neg (fun h' => h (can_length.1 h')), if_neg h]
theorem faultT_eq (A B : Option Addr) (c d : Nat) (l m : List Nat) : faultF [(A, c, l), (B, d, m)] = faultT l m := by
  unfold faultF faultT
  simp only [List.any_cons, List.any_nil, Bool.or_false, longB, scanF, Bool.false_or, Bool.or_eq_true, decide_eq_true_eq]
  by_cases h : 65536 < l.length ∨ 65536 < m.length
  · rw [if_pos h, if_pos h]
  · rw [if_neg h, if_neg h]
    by_cases h1 : l.any nanB = true
    · rw [if_pos h1, if_pos (.inl h1)]
    · rw [if_neg h1]
      by_cases h2 : m.any nanB = true
      · rw [if_pos h2, if_pos (.inr h2)]
      · rw [if_neg h2, if_neg (show ¬ (l.any nanB = true ∨ m.any nanB = true) from fun h => h.elim h1 h2)]
theorem fault_two (g : Nat) (A B : Option Addr) (c d : Nat) (l m : List Nat) (q : Int) (w : World) (hg0 : w.cell? ⟨g, 0, none⟩ = some (.slice A l.length c)) (hg1 : w.cell? ⟨g, 1, none⟩ = some (.slice B m.length d))
    (hr : Kd.C Kd.float w A l.length l) (hc : l.length ≤ c) (hn : l.length < 4611686018427387904) (hr2 : Kd.C Kd.float w B m.length m) (hd : m.length ≤ d) (hm : m.length < 4611686018427387904) (hq : faultT l m = q) :
    Calls Tryz.prog 50 #[.slice (some ⟨g, 0, none⟩) 2 2] w fun e w' => e = .returned (.int .i64 q) ∧ Below w.heap.size w w' := by
  have h := fault_any g [(A, c, l), (B, d, m)] w
    (fun i hi => by
      have : i = 0 ∨ i = 1 := by simp at hi; omega
      rcases this with rfl | rfl
      · exact hg0
      · exact hg1)
    (fun i hi => by
      have : i = 0 ∨ i = 1 := by simp at hi; omega
      rcases this with rfl | rfl
      · exact ⟨hr, hc, hn⟩
      · exact ⟨hr2, hd, hm⟩) (by simp)
  rw [faultT_eq, hq] at h
  exact h
end Go.Proofs.YthmeocigliephaaGreatDoor.Big
end
section
namespace Go.Proofs.YthmeocigliephaaGreatDoor
open Go.RowKit Go.Proofs.YthmeocigliephaaGreatDoorW.PrintWords Go.Proofs.YthmeocigliephaaGreatDoor.Big Go.Proofs.YthmeocigliephaaGreatDoor.Plain
def sums_fault.f (l m : List Nat) : Option Int := if l.length < 4611686018427387904 ∧ m.length < 4611686018427387904 then some (faultT l m) else none
theorem sums_fault.calls2 (g : Nat) (A B : Option Addr) (c d : Nat) (l m : List Nat) (q : Int) (w : World) (hg0 : w.cell? ⟨g, 0, none⟩ = some (.slice A l.length c)) (hg1 : w.cell? ⟨g, 1, none⟩ = some (.slice B m.length d))
    (hr : Kd.C Kd.float w A l.length l) (hc : l.length ≤ c) (hr2 : Kd.C Kd.float w B m.length m) (hd : m.length ≤ d) (h : sums_fault.f l m = some q) :
    Calls Tryz.prog 50 #[.slice (some ⟨g, 0, none⟩) 2 2] w fun e w' => e = .returned (.int .i64 q) ∧ Below w.heap.size w w' := by
  unfold sums_fault.f at h
  split at h
  · rename_i hn
    exact fault_two g A B c d l m q w hg0 hg1 hr hc hn.1 hr2 hd hn.2 (Option.some.inj h)
  · cases h
end Go.Proofs.YthmeocigliephaaGreatDoor
end
section
namespace Go.Proofs.YthmeocigliephaaGreatDoor.PSx
open Go.Proofs.YthmeocigliephaaGreatDoor.PSu Go.Proofs.YthmeocigliephaaGreatDoor.PSv Go.RowKit Go.Proofs.YthmeocigliephaaGreatDoorW.PrintWords Go.Proofs.YthmeocigliephaaGreatDoorW.PrintLast Go.Proofs.YthmeocigliephaaGreatDoorW.PrintMore
attribute [local go_sem] f64bits_run f64from_run run_float_some max2_int min2_int max_two min_two max_three min_three max_four min_four
def errW : Option Int → Value
 | none => .nilIface
 | some c => .iface 0 (.int .i64 c)
theorem errW_none : errW none = .nilIface := rfl
theorem errW_some (c : Int) : errW (some c) = .iface 0 (.int .i64 c) := rfl
theorem info83 : (Tryz.prog.info? 83).map (fun i => (i.zero, i.size, i.bytes)) = some (some (.int .u32 0), 1, 4) := by kernel_rfl
end Go.Proofs.YthmeocigliephaaGreatDoor.PSx
end
