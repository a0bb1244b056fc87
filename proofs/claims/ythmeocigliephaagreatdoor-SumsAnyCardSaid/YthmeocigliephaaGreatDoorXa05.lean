/- Parts of the proof, behind one another; unused words are left out. -/
import Derived.Test.YthmeocigliephaaGreatDoorXa04
set_option linter.unusedVariables false
set_option linter.unusedSimpArgs false
set_option linter.unusedSectionVars false
set_option exponentiation.threshold 100000
set_option maxRecDepth 100000
set_option maxHeartbeats 8000000
open Go.RowKit Go.Proofs.YthmeocigliephaaGreatDoorW.PrintWords Go.Proofs.YthmeocigliephaaGreatDoorW.PrintLast Go.Proofs.YthmeocigliephaaGreatDoorW.PrintMore
section
namespace Go.Proofs.YthmeocigliephaaGreatDoor.PSy
open Go.Proofs.YthmeocigliephaaGreatDoor.PSu Go.Proofs.YthmeocigliephaaGreatDoor.PSv Go.RowKit Go.Proofs.YthmeocigliephaaGreatDoorW.PrintWords Go.Proofs.YthmeocigliephaaGreatDoorW.PrintLast Go.Proofs.YthmeocigliephaaGreatDoorW.PrintMore
attribute [local go_sem] run_store_float f64bits_run f64from_run run_float_some max2_int min2_int max_two min_two max_three min_three max_four min_four
mutual
def cusplaw05_SumsAny.j0 : Nat → List Nat → Int → Nat → Int → List Nat → Int → Option (Bool)
 | 0, _, _, _, _, _, _ => none
 | k + 1, x0, x2, x7, x8, x9, x10 => if 0 ≤ x10 then (if x10 ≤ (x0.length : Int) then (if x9.length + (x0.drop (x10 : Int).toNat).length < 17592186044416 then ((some (x9 ++ (x0.drop (x10 : Int).toNat) : List Nat)).bind fun y129 => (if y129.length + (x0.take (x10 : Int).toNat).length < 17592186044416 then (cusplaw05_SumsAny.l0 k x0 x2 x7 x8 (y129 ++ (x0.take (x10 : Int).toNat)) 0) else (none))) else (none)) else (none)) else (none)
def cusplaw05_SumsAny.l0 : Nat → List Nat → Int → Nat → Int → List Nat → Int → Option (Bool)
 | 0, _, _, _, _, _, _ => none
 | k + 1, x0, x2, x7, x8, x9, x11 => if (wrap64 (x11 + 1)) < (x9.length : Int) then (if 0 ≤ (wrap64 (x11 + 1)) then (if 0 ≤ x11 then (if x11 < (x9.length : Int) then (cusplaw05_SumsAny.l0 k x0 x2 x7 x8 ((x9.set (x11 : Int).toNat (rdOf (0 : Nat) x9 (wrap64 (x11 + 1)))).set ((wrap64 (x11 + 1)) : Int).toNat (rdOf (0 : Nat) x9 x11)) (wrap64 (x11 + 2))) else (none)) else (none)) else (none)) else ((sums_Exact.f x9 x2).bind fun bt140 => ((cusplaw05_same.f x7 bt140.1).bind fun t142 => (if t142 = true then (cusplaw05_SumsAny.j2 k x0 x8 (x8 != bt140.2)) else (cusplaw05_SumsAny.j2 k x0 x8 true))))
def cusplaw05_SumsAny.j2 : Nat → List Nat → Int → Bool → Option (Bool)
 | 0, _, _, _ => none
 | k + 1, x0, x8, x85 => if x85 = true then (some false) else ((sums_Apart.f x0).bind fun bt143 => (if bt143.2 = 0 then (cusplaw05_SumsAny.j3 k x0 bt143.1 (x8 != 0)) else (cusplaw05_SumsAny.j3 k x0 bt143.1 true)))
def cusplaw05_SumsAny.j3 : Nat → List Nat → List Nat → Bool → Option (Bool)
 | 0, _, _, _ => none
 | k + 1, x0, x14, x96 => if x96 = true then ((cusplaw05_sure.f).bind fun t147 => (some t147)) else (cusplaw05_SumsAny.l1 k x0 x14 0 false ([] : List Int) 0)
def cusplaw05_SumsAny.l1 : Nat → List Nat → List Nat → Int → Bool → List Int → Int → Option (Bool)
 | 0, _, _, _, _, _, _ => none
 | k + 1, x0, x14, x17, x149000, x149001, x149002 => if x17 < (x0.length : Int) then (if 0 ≤ x17 then ((cuspref02_Float.f k (rdOf (0 : Nat) x0 x17)).bind fun bt150 => ((cuspref02_Plus.f x149000 x149001 x149002 bt150.1 bt150.2.1 bt150.2.2).bind fun bt155 => (cusplaw05_SumsAny.l1 k x0 x14 (wrap64 (x17 + 1)) bt155.1 bt155.2.1 bt155.2.2))) else (none)) else (cusplaw05_SumsAny.l2 k x14 0 x149000 x149001 x149002)
def cusplaw05_SumsAny.l2 : Nat → List Nat → Int → Bool → List Int → Int → Option (Bool)
 | 0, _, _, _, _, _ => none
 | k + 1, x14, x18, x149000, x149001, x149002 => if x18 < (x14.length : Int) then (if 0 ≤ x18 then ((cuspref01_Finite.f (rdOf (0 : Nat) x14 x18)).bind fun t163 => (if t163 = true then (if x18 > 0 then ((cuspref01_Abs.f (rdOf (0 : Nat) x14 x18)).bind fun t165 => (if 0 ≤ (wrap64 (x18 - 1)) then (if (wrap64 (x18 - 1)) < (x14.length : Int) then ((cuspref01_Unit.f (rdOf (0 : Nat) x14 (wrap64 (x18 - 1)))).bind fun t167 => (if ((floatBits .quo .f64 t167 (4611686018427387904 : Nat)).isSome) = true then (cusplaw05_SumsAny.j6 k x14 x18 ((FloatKind.f64.format.order t165 ((floatBits .quo .f64 t167 (4611686018427387904 : Nat)).getD 0)) == some .gt) x149000 x149001 x149002) else (none))) else (none)) else (none))) else (cusplaw05_SumsAny.j6 k x14 x18 false x149000 x149001 x149002)) else (cusplaw05_SumsAny.j6 k x14 x18 true x149000 x149001 x149002))) else (none)) else ((cuspref02_Sgn.f x149000 x149001 x149002).bind fun t160 => (if t160 = 0 then ((cusplaw05_sure.f).bind fun t161 => (some t161)) else (some false)))
def cusplaw05_SumsAny.j6 : Nat → List Nat → Int → Bool → Bool → List Int → Int → Option (Bool)
 | 0, _, _, _, _, _, _ => none
 | k + 1, x14, x18, x142, x149000, x149001, x149002 => if x142 = true then (some false) else (if 0 ≤ x18 then (if x18 < (x14.length : Int) then ((cuspref02_Float.f k (rdOf (0 : Nat) x14 x18)).bind fun bt169 => ((cuspref02_Less.f x149000 x149001 x149002 bt169.1 bt169.2.1 bt169.2.2).bind fun bt174 => (cusplaw05_SumsAny.l2 k x14 (wrap64 (x18 + 1)) bt174.1 bt174.2.1 bt174.2.2))) else (none)) else (none))
end
def cusplaw05_SumsAny.f (k : Nat) (l0 : List Nat) (a1 : Int) (a2 : Int) : Option (Bool) := (sums_Exact.f l0 a2).bind fun bt126 => (if (l0.length : Int) > 0 then (if (l0.length : Int) = 0 then (none) else (cusplaw05_SumsAny.j0 k l0 a2 bt126.1 bt126.2 ([] : List Nat) (Int.tmod (wrap64 ((Int.tmod a1 (l0.length : Int)) + (l0.length : Int))) (l0.length : Int)))) else (cusplaw05_SumsAny.j0 k l0 a2 bt126.1 bt126.2 ([] : List Nat) 0))
def cusplaw05_SumsAny.T11 : Bool × List (List Nat × List Nat) := (true, [([], []), ([], []), ([], []), ([], []), ([3], [3]), ([], []), ([], []), ([6], [6]), ([5, 7], [5, 7]), ([8], [8]), ([], []), ([], []), ([10, 11], [10, 11]), ([12], [12]), ([0, 1, 0, 1, 5, 6, 7, 8, 9, 13], [0, 1]), ([14, 9, 0, 1, 5, 6, 7, 8, 9, 13], [9, 14]), ([2, 4, 0, 1, 2, 3, 4, 5, 6, 7, 8, 9, 10, 11, 12, 13, 14, 15], [2, 4]), ([16, 13, 15, 0, 1, 2, 3, 4, 5, 6, 7, 8, 9, 10, 11, 12, 13, 14, 15], [13, 16])])
def cusplaw05_SumsAny.B11 : List Nat := [0, 0, 0, 0, 8, 0, 0, 64, 224, 480, 0, 0, 3072, 7168, 16355, 32739, 65535, 131071]
theorem cusplaw05_SumsAny.tab11 : rtab .any (opsOf Tryz.f7 11) = cusplaw05_SumsAny.T11 := by kernel_rfl
theorem cusplaw05_SumsAny.bits11 : waitsOk cusplaw05_SumsAny.T11.2 cusplaw05_SumsAny.B11 = true := by kernel_rfl
def cusplaw05_SumsAny.T22 : Bool × List (List Nat × List Nat) := (true, [([], []), ([], []), ([], []), ([1, 2], [1, 2]), ([3], [3]), ([4], [4]), ([0, 5, 5], [0, 5]), ([6, 6, 0, 1, 2, 3, 4, 5, 6], [6])])
def cusplaw05_SumsAny.B22 : List Nat := [0, 0, 0, 6, 14, 30, 63, 127]
theorem cusplaw05_SumsAny.tab22 : rtab .any (opsOf Tryz.f7 22) = cusplaw05_SumsAny.T22 := by kernel_rfl
theorem cusplaw05_SumsAny.bits22 : waitsOk cusplaw05_SumsAny.T22.2 cusplaw05_SumsAny.B22 = true := by kernel_rfl
def cusplaw05_SumsAny.T26 : Bool × List (List Nat × List Nat) := (true, [([], []), ([], []), ([0, 1], [0, 1]), ([2], [2]), ([3], [3]), ([4], [4]), ([5, 4], [5]), ([6], [6]), ([7, 6], [6, 7]), ([8, 6, 6], [6, 8]), ([9], [9]), ([9], [9]), ([10, 11, 9], [9, 10, 11]), ([12, 9], [9, 12]), ([13, 9, 9], [9, 13]), ([9], [9]), ([9], [9]), ([16, 9], [9, 16]), ([15, 17, 9], [9, 15, 17]), ([18, 9], [9, 18]), ([19, 14, 9], [9, 19]), ([20, 9], [9, 20]), ([14, 21, 9], [9, 14, 21]), ([9, 22, 6], [6, 9, 22]), ([6, 23], [6, 23])])
def cusplaw05_SumsAny.B26 : List Nat := [0, 0, 3, 7, 15, 31, 63, 127, 255, 511, 1023, 1023, 4095, 8191, 16383, 1023, 1023, 66559, 230399, 492543, 1048575, 2097151, 4194303, 8388607, 16777215]
theorem cusplaw05_SumsAny.tab26 : rtab .any (opsOf Tryz.f7 26) = cusplaw05_SumsAny.T26 := by kernel_rfl
theorem cusplaw05_SumsAny.bits26 : waitsOk cusplaw05_SumsAny.T26.2 cusplaw05_SumsAny.B26 = true := by kernel_rfl
def cusplaw05_SumsAny.T28 : Bool × List (List Nat × List Nat) := (true, [([], []), ([], []), ([], []), ([1, 2], [1, 2]), ([3], [3]), ([4], [4]), ([0, 5, 5], [0, 5]), ([6, 6, 0, 1, 2, 3, 4, 5, 6], [6])])
def cusplaw05_SumsAny.B28 : List Nat := [0, 0, 0, 6, 14, 30, 63, 127]
theorem cusplaw05_SumsAny.tab28 : rtab .any (opsOf Tryz.f7 28) = cusplaw05_SumsAny.T28 := by kernel_rfl
theorem cusplaw05_SumsAny.bits28 : waitsOk cusplaw05_SumsAny.T28.2 cusplaw05_SumsAny.B28 = true := by kernel_rfl
theorem cusplaw05_SumsAny.calls (k : Nat) (A0 : Option Addr) (c0 : Nat) (l0 : List Nat) (a1 : Int) (a2 : Int) (r : Bool) (w : World) (hr0 : Kd.C Kd.float w A0 l0.length l0) (hc0 : l0.length ≤ c0) (h : cusplaw05_SumsAny.f k l0 a1 a2 = some r) (hL : Big.Laid w := by exact Big.Laid.step HL.out hbw) :
  Calls Tryz.prog 7 #[.slice A0 l0.length c0, .int .i64 a1, .int .i64 a2] w fun e w' => e = .returned (.bool r) ∧ Below w.heap.size w w' := by
 have HL := asd hL
 clear hL
 have hu41 := Tryz.underlying41
 have HR0 := asd hr0
 have HC0 := asd hc0
 clear hr0 hc0
 have HB := asd (Below.refl w.heap.size w)
 have H := h
 clear h
 unfold cusplaw05_SumsAny.f at H
 replace H := Option.bind_eq_some_iff.mp H
 obtain ⟨⟨t126, t127⟩, A40, H⟩ := H
 replace H : (if (l0.length : Int) > 0 then (if (l0.length : Int) = 0 then (none) else (cusplaw05_SumsAny.j0 k l0 a2 t126 t127 ([] : List Nat) (Int.tmod (wrap64 ((Int.tmod a1 (l0.length : Int)) + (l0.length : Int))) (l0.length : Int)))) else (cusplaw05_SumsAny.j0 k l0 a2 t126 t127 ([] : List Nat) 0)) = some r := H
 have A4 := asd A40
 clear A40
 have HC5 := asd H
 clear H
 go_enter Tryz.func7, Tryz.ntmps7
 go_upto_if 27 with (first | ((with_reducible refine gate_callee (f := 22) rfl ?_); refine goesL_ (some 22) rfl rfl Tryz.func22 (by kernel_rfl) rfl #[.slice A0 l0.length c0, .int .i64 a2] rfl eqA ?_; (with_reducible refine (sums_Exact.calls _ _ l0 a2 t126 t127 _ ?side1 ?side2 A4.out).mono ?_); (case side1 => repeat (first | exact HR0.out | (with_reducible refine Kd.C_alloc ?_ _) | (with_reducible refine Kd.C_drewN ?_ _) | (with_reducible refine Kd.C_drew ?_))); (case side2 => exact HC0.out); rintro e w6 ⟨rfl, hb⟩; refine ⟨_, rfl, ?_⟩; replace HB := asd (below_step hbw hb); (try clear hb)))
 (try simp only [Act.put, List.setIfInBounds_toArray, List.set_cons_zero, List.set_cons_succ])
 go_cut [10] (fun v10 wc => ∃ (kq : Nat) (x10_4 : Int), v10 = .int .i64 x10_4 ∧ Aside0 (cusplaw05_SumsAny.j0 kq l0 a2 t126 t127 ([] : List Nat) x10_4 = some r) ∧ Aside0 (kq ≤ k) ∧ Aside0 (Kd.R Kd.float 25 wc w.heap.size (fun _ => True) (.slice none 0 0) ([] : List Nat)) ∧ Aside0 (Below w.heap.size w wc))
 case first =>
  have H := HC5.out
  clear HC5
  by_cases c7 : (l0.length : Int) > 0
  ·rw [if_pos c7] at H
   have c7b0 := decide_eq_true c7
   have c7b1 : decide (0 < l0.length) = true := decide_eq_true (by omega)
   clear c7
   (first | rw [c7b0] | rw [c7b1] | (simp only [i64_w, i32_w]; rw [c7b0]) | skip)
   by_cases c8 : (l0.length : Int) = 0
   ·rw [if_pos c8] at H
    exact absurd H (by simp)
   ·rw [if_neg c8] at H
    have c8b0 := beq_eq_false_iff_ne.mpr c8
    have c8b1 := bne_iff_ne.mpr c8
    have c8b2 : ¬ (l0 = []) := fun h_ => c8 (by rw [h_]; rfl)
    have H' := asd H
    clear H
    go_wp2
    go_meet
    case rel => exact ⟨_, (Int.tmod (wrap64 ((Int.tmod a1 (l0.length : Int)) + (l0.length : Int))) (l0.length : Int)), eqB, H', ⟨by first | omega | exact Nat.le_refl _⟩, ⟨by first | exact Kd.R_nil _ _ _ _ _ | exact Kd.N_nil _ _ _ _ _ | exact Kd.V_nil _ _ _ _ _ | exact Kd.Q_nil _ _ _ _ _ | exact Kd.S_nil _ _ _ _ _⟩, ⟨hbw⟩⟩
  ·rw [if_neg c7] at H
   have c7b0 := decide_eq_false c7
   have c7b1 : decide (0 < l0.length) = false := decide_eq_false (by omega)
   clear c7
   (first | rw [c7b0] | rw [c7b1] | (simp only [i64_w, i32_w]; rw [c7b0]) | skip)
   have H' := asd H
   clear H
   go_wp2
   go_meet
   case rel => exact ⟨_, (0), eqB, H', ⟨by first | omega | exact Nat.le_refl _⟩, ⟨by first | exact Kd.R_nil _ _ _ _ _ | exact Kd.N_nil _ _ _ _ _ | exact Kd.V_nil _ _ _ _ _ | exact Kd.Q_nil _ _ _ _ _ | exact Kd.S_nil _ _ _ _ _⟩, ⟨hbw⟩⟩
 case rest =>
  clear HC5
  try clear c2
  try clear p2
  try clear p6
  try clear c7
  try clear c7b0
  try clear c7b1
  try clear c8
  try clear c8b0
  try clear c8b1
  try clear c8b2
  obtain ⟨kq, x10_4, rfl, HA, HJ4, HO_9, HB⟩ := hcut
  cases kq with
  | zero => exact absurd HA.out (by simp [cusplaw05_SumsAny.j0])
  | succ kj4 =>
   have H := HA.out
   clear HA
   simp only [cusplaw05_SumsAny.j0] at H
   by_cases c9 : 0 ≤ x10_4
   ·rw [if_pos c9] at H
    have c9b0 := eq_true c9
    have c9b1 := decide_eq_true c9
    clear c9
    by_cases c10 : x10_4 ≤ (l0.length : Int)
    ·rw [if_pos c10] at H
     have c10b0 := eq_true c10
     have c10b1 := decide_eq_true c10
     clear c10
     by_cases c11 : ([] : List Nat).length + (l0.drop (x10_4 : Int).toNat).length < 17592186044416
     ·rw [if_pos c11] at H
      have LMc11 := asd c11
      clear c11
      obtain ⟨y129, hy129⟩ : ∃ y_ : List Nat, y_ = (([] : List Nat) ++ (l0.drop (x10_4 : Int).toNat)) := ⟨_, rfl⟩
      try rw [Option.bind_some] at H
      try rw [← hy129] at H
      have Ny129 := asd hy129
      clear hy129
      have c12b0 := eq_true (odt : 0 ≤ x10_4)
      have c13b0 := eq_true (odt : x10_4 ≤ (l0.length : Int))
      by_cases c14 : y129.length + (l0.take (x10_4 : Int).toNat).length < 17592186044416
      ·rw [if_pos c14] at H
       have LMc14 := asd c14
       clear c14
       obtain ⟨y133, hy133⟩ : ∃ y_ : List Nat, y_ = (y129 ++ (l0.take (x10_4 : Int).toNat)) := ⟨_, rfl⟩
       try rw [Option.bind_some] at H
       try rw [← hy133] at H
       have Ny133 := asd hy133
       clear hy133
       have H' := asd H
       clear H
       obtain ⟨i015, hi015, _, hsz15, _⟩ := info_parts info25
       obtain ⟨A15, hcut15, hA15, hC15⟩ := print_drop_of (P := Tryz.prog) (Value.float .f64) (0 : Nat) 22 25 .i64 Tryz.underlying22 hi015 hsz15 A0 c0 l0 x10_4 (odt) (odt) HC0.out
       have HR128 := asd (Kd.C_of_reads (h1 := fun _ => rfl) (hA15 _ (Kd.reads_of_C HR0.out)))
       have HC128 := asd hC15
       clear hA15 hC15 hi015 hsz15
       go_wp2_with (first | ((with_reducible refine gate_builtin (b := .append) (xs := #[.tmp 38, .tmp 41]) rfl ?_); at_builtin; refine Kd.R_append_rows Kd.float (w0 := w) w.heap.size rfl (.tmp 38) (.tmp 41) 22 25 (.float .f64 0) 8 rfl Tryz.underlying22 info25 rfl (by decide) (by omega) (.slice none 0 0) ([] : List Nat) (l0.drop (x10_4 : Int).toNat) _ _ _ (fun _ => True) (fun _ => False) rfl rfl ?aO ?aR (fun _ _ h => h) (fun _ h => h.elim) ?aF ?aB ?aS ?aL ?_; (case aR => first | (rw [← show (l0.drop (x10_4 : Int).toNat).length = (l0.length - x10_4.toNat) from List.length_drop]; repeat (first | exact (Kd.C_below HR128.out HB.out) | (with_reducible refine Kd.C_alloc ?_ _) | (with_reducible refine Kd.C_drewN ?_ _) | (with_reducible refine Kd.C_drew ?_))) | (repeat (first | exact (Kd.C_below HR128.out HB.out) | (with_reducible refine Kd.C_alloc ?_ _) | (with_reducible refine Kd.C_drewN ?_ _) | (with_reducible refine Kd.C_drew ?_)))); (case aB => exact hbw); (case aF => exact (fun _ _ => trivial)); (case aO => exact (rUp HO_9.out)); (case aS => exact (below_size hbw)); (case aL => have := LMc11.out; have hlx_ := (show (l0.drop (x10_4 : Int).toNat).length = (l0.length - x10_4.toNat) from List.length_drop); omega); intro v130 w16 ho hb hg hat; rw [← Ny129.out] at ho; have n0_ := asd (hb); have n1_ := asd (ho); clear HB; clear HO_9; have HB := n0_; have HO131 := n1_; clear n0_ n1_; clear ho hb hg hat; obtain ⟨i017, hi017, _, hsz17, _⟩ := info_parts info25; obtain ⟨hcut17, hA17, hC17⟩ := print_take_of (P := Tryz.prog) (Value.float .f64) (0 : Nat) 22 25 .i64 Tryz.underlying22 hi017 hsz17 A0 c0 l0 x10_4 (odt) (odt) HC0.out; have HR132 := asd (Kd.C_of_reads (h1 := fun _ => rfl) (hA17 _ (Kd.reads_of_C HR0.out))); have HC132 := asd hC17; clear hA17 hC17 hi017 hsz17) | ((with_reducible refine gate_builtin (b := .append) (xs := #[.tmp 43, .tmp 46]) rfl ?_); at_builtin; refine Kd.R_append_rows Kd.float (w0 := w) w.heap.size rfl (.tmp 43) (.tmp 46) 22 25 (.float .f64 0) 8 rfl Tryz.underlying22 info25 rfl (by decide) (by omega) v130 y129 (l0.take (x10_4 : Int).toNat) _ _ _ (fun _ => True) (fun _ => False) rfl rfl ?aO ?aR (fun _ _ h => h) (fun _ h => h.elim) ?aF ?aB ?aS ?aL ?_; (case aR => have hl_ : (l0.take (x10_4 : Int).toNat).length = x10_4.toNat := (by rw [List.length_take]; have h_ : (x10_4 : Int) ≤ (l0.length : Int) := odt; omega); have hc_ := Kd.C_below HR132.out HB.out; rw [hl_] at hc_; exact hc_); (case aB => exact hbw); (case aF => exact (fun _ _ => trivial)); (case aO => exact (rUp HO131.out)); (case aS => exact (below_size hbw)); (case aL => have := LMc14.out; have hlx_ := (show (l0.take (x10_4 : Int).toNat).length = x10_4.toNat from (by rw [List.length_take]; have h_ : (x10_4 : Int) ≤ (l0.length : Int) := odt; omega)); omega); intro v134 w18 ho hb hg hat; rw [← Ny133.out] at ho; have n0_ := asd (hb); have n1_ := asd (ho); clear HB; clear HO131; have HB := n0_; have HO135 := n1_; clear n0_ n1_; clear ho hb hg hat))
       go_loopg [11] kj4 (fun kq v11 w' => ∃ (x9_2 : List Nat) (x11_2 : Int), v11 = .int .i64 x11_2 ∧ Aside0 (cusplaw05_SumsAny.l0 kq l0 a2 t126 t127 x9_2 x11_2 = some r) ∧ Aside0 (kq ≤ kj4) ∧ Aside0 (Kd.R Kd.float 25 w' w.heap.size (fun _ => True) v134 x9_2) ∧ Aside0 (Below w.heap.size w w'))
       case atStart => exact ⟨(y133), (0), eqB, H', ⟨Nat.le_refl _⟩, ⟨by (with_reducible repeat (first | apply Kd.R_alloc | apply Kd.R_drewN | apply Kd.R_drew)); exact HO135.out⟩, ⟨hbw⟩⟩
       case round =>
        clear H'
        try clear c1
        try clear c2
        try clear p2
        try clear p6
        try clear c7
        try clear c7b0
        try clear c7b1
        try clear c8
        try clear c8b0
        try clear c8b1
        try clear c8b2
        try clear c9
        try clear c9b0
        try clear c9b1
        try clear c10
        try clear c10b0
        try clear c10b1
        try clear c11
        try clear c12
        try clear c12b0
        try clear c13
        try clear c13b0
        try clear c14
        try clear p2
        try clear p6
        obtain ⟨x9_2, x11_2, rfl, HA, HK2, HO_9, HB⟩ := hrel
        cases gk with
        | zero => exact absurd HA.out (by simp [cusplaw05_SumsAny.l0])
        | succ k2 =>
         have H := HA.out
         clear HA
         simp only [cusplaw05_SumsAny.l0] at H
         by_cases c19 : (wrap64 (x11_2 + 1)) < (x9_2.length : Int)
         ·rw [if_pos c19] at H
          have c19b0 := decide_eq_true c19
          clear c19
          obtain ⟨ji20, hji20⟩ : ∃ j_ : Int, (wrap64 (x11_2 + 1)) = j_ := ⟨_, rfl⟩
          first | rw [hji20] at H | simp only [hji20] at H ⊢
          (try rw [hji20] at c19b0)
          have hji20w : (IntKind.i64.wrap (x11_2 + 1)) = ji20 := (i64_w _).trans hji20
          by_cases c21 : 0 ≤ (ji20)
          ·rw [if_pos c21] at H
           have c21b0 := decide_eq_true c21
           clear c21
           by_cases c22 : 0 ≤ x11_2
           ·rw [if_pos c22] at H
            have c22b0 := decide_eq_true c22
            clear c22
            by_cases c23 : x11_2 < (x9_2.length : Int)
            ·rw [if_pos c23] at H
             have c23b0 := decide_eq_true c23
             clear c23
             obtain ⟨y138, hy138⟩ : ∃ y_ : List Nat, y_ = (x9_2.set (x11_2 : Int).toNat (rdOf (0 : Nat) x9_2 (ji20))) := ⟨_, rfl⟩
             try rw [Option.bind_some] at H
             try rw [← hy138] at H
             have Ny138 := asd hy138
             clear hy138
             obtain ⟨y139, hy139⟩ : ∃ y_ : List Nat, y_ = (y138.set ((ji20) : Int).toNat (rdOf (0 : Nat) x9_2 x11_2)) := ⟨_, rfl⟩
             try rw [Option.bind_some] at H
             try rw [← hy139] at H
             have Ny139 := asd hy139
             clear hy139
             have H' := asd H
             clear H
             obtain ⟨Ao26, co26, eo26⟩ := Kd.R_slice HO_9.out
             subst eo26
             try go_wp2
             have n0_ := asd (Kd.R_drew HO_9.out)
             have n1_ := asd (below_drew1 HB.out)
             clear HO_9
             clear HB
             have HO_9 := n0_
             have HB := n1_
             clear n0_ n1_
             have p136 : 0 ≤ ((ji20) : Int) := odt
             have q136 : (ji20) < (x9_2.length : Int) := odt
             obtain ⟨ad136, e136, hx136_0⟩ := Kd.at_float (Kd.R_reads' HO_9.out).2.2 (ji20) p136 q136
             cases e136
             replace p136 := eq_true p136
             replace q136 := eq_true q136
             have p137 : 0 ≤ (x11_2 : Int) := odt
             have q137 : x11_2 < (x9_2.length : Int) := odt
             obtain ⟨ad137, e137, hx137_0⟩ := Kd.at_float (Kd.R_reads' HO_9.out).2.2 x11_2 p137 q137
             obtain rfl : ad136 = ad137 := (by injection e137)
             replace p137 := eq_true p137
             replace q137 := eq_true q137
             have p24 : 0 ≤ (x11_2 : Int) := odt
             have q24 : (x11_2 : Int) < ((x9_2.length : Int) : Int) := odt
             obtain ⟨go24, co24, eo24, gb24, gl24, cl24, HG24⟩ := Kd.R_form HO_9.out (by omega)
             (first | cases eo24 | (injection eo24 with ea_ en_ ec_; (first | subst ea_ | (injection ea_ with ea_; subst ea_)); subst ec_; clear en_))
             have GB24 := asd gb24
             have GG24 := asd HG24
             clear gb24 gl24 HG24
             (first | simp only [add_plain] at hx136_0 | skip)
             (first | simp only [add_plain] at hx137_0 | skip)
             obtain ⟨hx24_0, hf24_0⟩ := Kd.R_celln (0 : Nat) HO_9.out (x11_2 : Int) p24 q24
             replace p24 := eq_true p24
             replace q24 := eq_true q24
             have HP28 := Kd.R_putn HO_9.out (x11_2 : Int) (rdOf (0 : Nat) x9_2 (ji20))
             rw [← Ny138.out] at HP28
             have HQ28 := asd HP28
             clear HP28
             have p25 : 0 ≤ ((ji20) : Int) := odt
             have q25 : ((ji20) : Int) < ((x9_2.length : Int) : Int) := odt
             obtain ⟨hx25_0, hf25_0⟩ := Kd.R_celln (0 : Nat) HQ28.out ((ji20) : Int) p25 q25
             replace p25 := eq_true p25
             replace q25 := eq_true q25
             have HP29 := Kd.R_putn HQ28.out ((ji20) : Int) (rdOf (0 : Nat) x9_2 x11_2)
             rw [← Ny139.out] at HP29
             have HQ29 := asd HP29
             clear HP29
             refine start_ (n := 18) (S := fun w' => w'.cell? ⟨go24, ((ji20)).toNat, none⟩ = some (.float .f64 (rdOf (0 : Nat) x9_2 (ji20))) ∧ w'.cell? ⟨go24, (x11_2).toNat, none⟩ = some (.float .f64 (rdOf (0 : Nat) x9_2 x11_2))) (ds := [15, 17]) #[false, false, false, false, false, false, false, false, false, false, false, false, false, false, false, false, false, false] (by kernel_rfl) rfl rfl ⟨hx136_0, hx137_0⟩ (fun hHeld => ?_); refine with_tabW cusplaw05_SumsAny.tab11 cusplaw05_SumsAny.bits11 (fun HT_ HW_ => ?_)
             generalize wr.drew = w27 at HO_9 HB GG24 HQ28 HQ29 hf24_0 hf25_0 hx136_0 hx137_0 hx24_0 hx25_0 hHeld ⊢
             refine pure_ (i := 0) (N := some 55) (v := ?_) (a' := ?_) #[true, false, false, false, false, false, false, false, false, false, false, false, false, false, false, false, false, false] rfl rfl (any_of HT_.out (by kernel_rfl)) (fun _ _ _ h => h) (Or.inl ⟨by rfl, ?_⟩) ?_ ?_
             rotate_left
             ·intro w'
              go_simp
              with_reducible rfl
             rotate_left
             ·simp only [Act.put, List.setIfInBounds_toArray, List.set_cons_zero, List.set_cons_succ, i64_w, i32_w]
              rfl
             refine pure_ (i := 1) (N := some 56) (v := ?_) (a' := ?_) #[true, true, false, false, false, false, false, false, false, false, false, false, false, false, false, false, false, false] rfl rfl (any_of HT_.out (by kernel_rfl)) (fun _ _ _ h => h) (Or.inl ⟨by rfl, ?_⟩) ?_ ?_
             rotate_left
             ·intro w'
              go_simp
              with_reducible rfl
             rotate_left
             ·simp only [Act.put, List.setIfInBounds_toArray, List.set_cons_zero, List.set_cons_succ, i64_w, i32_w]
              rfl
             refine pure_ (i := 2) (N := some 57) (v := ?_) (a' := ?_) #[true, true, true, false, false, false, false, false, false, false, false, false, false, false, false, false, false, false] rfl rfl (any_of HT_.out (by kernel_rfl)) (fun _ _ _ h => h) (Or.inl ⟨by rfl, ?_⟩) ?_ ?_
             rotate_left
             ·intro w'
              go_simp
              with_reducible rfl
             rotate_left
             ·simp only [Act.put, List.setIfInBounds_toArray, List.set_cons_zero, List.set_cons_succ, i64_w, i32_w]
              rfl
             refine pure_ (i := 3) (N := some 58) (v := ?_) (a' := ?_) #[true, true, true, true, false, false, false, false, false, false, false, false, false, false, false, false, false, false] rfl rfl (any_of HT_.out (by kernel_rfl)) (fun _ _ _ h => h) (Or.inl ⟨by rfl, ?_⟩) ?_ ?_
             rotate_left
             ·intro w'
              go_simp
              with_reducible rfl
             rotate_left
             ·simp only [Act.put, List.setIfInBounds_toArray, List.set_cons_zero, List.set_cons_succ, i64_w, i32_w]
              rfl
             refine pure_ (i := 4) (N := some 59) (v := ?_) (a' := ?_) #[true, true, true, true, true, false, false, false, false, false, false, false, false, false, false, false, false, false] rfl rfl (any_of HT_.out (by kernel_rfl)) (fun _ _ _ h => h) (Or.inl ⟨by rfl, ?_⟩) ?_ ?_
             rotate_left
             ·intro w'
              go_simp
              with_reducible rfl
             rotate_left
             ·simp only [Act.put, List.setIfInBounds_toArray, List.set_cons_zero, List.set_cons_succ, i64_w, i32_w]
              rfl
             refine pure_ (i := 5) (N := some 60) (v := ?_) (a' := ?_) #[true, true, true, true, true, true, false, false, false, false, false, false, false, false, false, false, false, false] rfl rfl (any_of HT_.out (by kernel_rfl)) (fun _ _ _ h => h) (Or.inl ⟨by rfl, ?_⟩) ?_ ?_
             rotate_left
             ·intro w'
              go_simp
              with_reducible rfl
             rotate_left
             ·simp only [Act.put, List.setIfInBounds_toArray, List.set_cons_zero, List.set_cons_succ, i64_w, i32_w]
              rfl
             refine pure_ (i := 6) (N := some 61) (v := ?_) (a' := ?_) #[true, true, true, true, true, true, true, false, false, false, false, false, false, false, false, false, false, false] rfl rfl (any_of HT_.out (by kernel_rfl)) (fun _ _ _ h => h) (Or.inl ⟨by rfl, ?_⟩) ?_ ?_
             rotate_left
             ·intro w'
              go_simp
              with_reducible rfl
             rotate_left
             ·simp only [Act.put, List.setIfInBounds_toArray, List.set_cons_zero, List.set_cons_succ, i64_w, i32_w]
              rfl
             refine pure_ (i := 7) (N := some 62) (v := ?_) (a' := ?_) #[true, true, true, true, true, true, true, true, false, false, false, false, false, false, false, false, false, false] rfl rfl (any_of HT_.out (by kernel_rfl)) (fun _ _ _ h => h) (Or.inl ⟨by rfl, ?_⟩) ?_ ?_
             rotate_left
             ·intro w'
              go_simp
              with_reducible rfl
             rotate_left
             ·simp only [Act.put, List.setIfInBounds_toArray, List.set_cons_zero, List.set_cons_succ, i64_w, i32_w]
              rfl
             refine pure_ (i := 8) (N := some 63) (v := ?_) (a' := ?_) #[true, true, true, true, true, true, true, true, true, false, false, false, false, false, false, false, false, false] rfl rfl (any_of HT_.out (by kernel_rfl)) (fun _ _ _ h => h) (Or.inl ⟨by rfl, ?_⟩) ?_ ?_
             rotate_left
             ·intro w'
              go_simp
              with_reducible rfl
             rotate_left
             ·simp only [Act.put, List.setIfInBounds_toArray, List.set_cons_zero, List.set_cons_succ, i64_w, i32_w]
              rfl
             refine pure_ (i := 10) (N := some 65) (v := ?_) (a' := ?_) #[true, true, true, true, true, true, true, true, true, false, true, false, false, false, false, false, false, false] rfl rfl (any_of HT_.out (by kernel_rfl)) (fun _ _ _ h => h) (Or.inl ⟨by rfl, ?_⟩) ?_ ?_
             rotate_left
             ·intro w'
              go_simp
              with_reducible rfl
             rotate_left
             ·simp only [Act.put, List.setIfInBounds_toArray, List.set_cons_zero, List.set_cons_succ, i64_w, i32_w]
              rfl
             refine pure_ (i := 11) (N := some 66) (v := ?_) (a' := ?_) #[true, true, true, true, true, true, true, true, true, false, true, true, false, false, false, false, false, false] rfl rfl (any_of HT_.out (by kernel_rfl)) (fun _ _ _ h => h) (Or.inl ⟨by rfl, ?_⟩) ?_ ?_
             rotate_left
             ·intro w'
              go_simp
              with_reducible rfl
             rotate_left
             ·simp only [Act.put, List.setIfInBounds_toArray, List.set_cons_zero, List.set_cons_succ, i64_w, i32_w]
              rfl
             refine pure_ (i := 12) (N := some 67) (v := ?_) (a' := ?_) #[true, true, true, true, true, true, true, true, true, false, true, true, true, false, false, false, false, false] rfl rfl (any_of HT_.out (by kernel_rfl)) (fun _ _ _ h => h) (Or.inl ⟨by rfl, ?_⟩) ?_ ?_
             rotate_left
             ·intro w'
              go_simp
              with_reducible rfl
             rotate_left
             ·simp only [Act.put, List.setIfInBounds_toArray, List.set_cons_zero, List.set_cons_succ, i64_w, i32_w]
              rfl
             refine take_ (i := 9) (N := some 64) (v := ?_) (a' := ?_) #[true, true, true, true, true, true, true, true, true, true, true, true, true, false, false, false, false, false] rfl rfl (take_ofW HT_.out HW_.out (by kernel_rfl)) (fun _ _ _ h => h) (Or.inl ⟨by rfl, ?_⟩) hHeld ?_ ?_
             rotate_left
             ·rintro w' ⟨s0, s1⟩
              go_simp
              with_reducible rfl
             rotate_left
             ·simp only [Act.put, List.setIfInBounds_toArray, List.set_cons_zero, List.set_cons_succ, i64_w, i32_w]
              rfl
             refine take_ (i := 13) (N := some 68) (v := ?_) (a' := ?_) #[true, true, true, true, true, true, true, true, true, true, true, true, true, true, false, false, false, false] rfl rfl (take_ofW HT_.out HW_.out (by kernel_rfl)) (fun _ _ _ h => h) (Or.inl ⟨by rfl, ?_⟩) hHeld ?_ ?_
             rotate_left
             ·rintro w' ⟨s0, s1⟩
              go_simp
              with_reducible rfl
             rotate_left
             ·simp only [Act.put, List.setIfInBounds_toArray, List.set_cons_zero, List.set_cons_succ, i64_w, i32_w]
              rfl
             refine pure_ (i := 14) (N := some 69) (v := ?_) (a' := ?_) #[true, true, true, true, true, true, true, true, true, true, true, true, true, true, true, false, false, false] rfl rfl (any_of HT_.out (by kernel_rfl)) (fun _ _ _ h => h) (Or.inl ⟨by rfl, ?_⟩) ?_ ?_
             rotate_left
             ·intro w'
              go_simp
              with_reducible rfl
             rotate_left
             ·simp only [Act.put, List.setIfInBounds_toArray, List.set_cons_zero, List.set_cons_succ, i64_w, i32_w]
              rfl
             refine last_ (i := 15) (N := none) #[true, true, true, true, true, true, true, true, true, true, true, true, true, true, true, true, false, false] rfl rfl (one_of HT_.out (by kernel_rfl)) (by decide) (fun K hK => ?_)
             refine skip_ (w1 := ?_) (by rfl) rfl ?_ ?_
             rotate_left
             ·go_simp
              rfl
             refine hK.out _ _ ?_
             clear hK K
             refine pure_ (i := 16) (N := some 70) (v := ?_) (a' := ?_) #[true, true, true, true, true, true, true, true, true, true, true, true, true, true, true, true, true, false] rfl rfl (any_of HT_.out (by kernel_rfl)) (fun _ _ _ h => h) (Or.inl ⟨by rfl, ?_⟩) ?_ ?_
             rotate_left
             ·intro w'
              go_simp
              with_reducible rfl
             rotate_left
             ·simp only [Act.put, List.setIfInBounds_toArray, List.set_cons_zero, List.set_cons_succ, i64_w, i32_w]
              rfl
             refine last_ (i := 17) (N := none) #[true, true, true, true, true, true, true, true, true, true, true, true, true, true, true, true, true, true] rfl rfl (one_of HT_.out (by kernel_rfl)) (by decide) (fun K hK => ?_)
             refine skip_ (w1 := ?_) (by rfl) rfl ?_ ?_
             rotate_left
             ·go_simp
              rfl
             refine hK.out _ _ ?_
             clear hK K
             refine done_ (done_of HT_.out (by kernel_rfl)) ?_
             try go_wp2
             go_roundg k2
             case measure => have := HJ4.out; have := HK2.out; omega
             case rel => exact ⟨(y139), (wrap64 (x11_2 + 2)), eqB, H', ⟨by have := HJ4.out; have := HK2.out; omega⟩, ⟨by (with_reducible repeat (first | apply Kd.R_alloc | apply Kd.R_drewN | apply Kd.R_drew)); exact HQ29.out⟩, ⟨by repeat (first | (with_reducible first | exact HB.out | apply below_alloc | apply pw_below_drewN | apply below_drew1 | refine below_set ?_ GB24.out | refine below_set ?_ GB24.out) | exact HB.out)⟩⟩
            ·rw [if_neg c23] at H
             exact absurd H (by simp)
           ·rw [if_neg c22] at H
            exact absurd H (by simp)
          ·rw [if_neg c21] at H
           exact absurd H (by simp)
         ·rw [if_neg c19] at H
          have c19b0 := decide_eq_false c19
          clear c19
          replace H := Option.bind_eq_some_iff.mp H
          obtain ⟨⟨t140, t141⟩, A300, H⟩ := H
          replace H : ((cusplaw05_same.f t126 t140).bind fun t142 => (if t142 = true then (cusplaw05_SumsAny.j2 k2 l0 t127 (t127 != t141)) else (cusplaw05_SumsAny.j2 k2 l0 t127 true))) = some r := H
          have A30 := asd A300
          clear A300
          have HC31 := asd H
          clear H
          obtain ⟨Ao32, co32, eo32⟩ := Kd.R_slice HO_9.out
          subst eo32
          go_upto_region 13 with (first | ((with_reducible refine gate_callee (f := 22) rfl ?_); refine goesL_ (some 74) rfl rfl Tryz.func22 (by kernel_rfl) rfl #[.slice Ao32 x9_2.length co32, .int .i64 a2] rfl eqA ?_; (with_reducible refine (sums_Exact.calls _ _ x9_2 a2 t140 t141 _ ?side1 ?side2 A30.out).mono ?_); (case side1 => repeat (first | exact (Kd.R_reads' HO_9.out).2.2 | (with_reducible refine Kd.C_alloc ?_ _) | (with_reducible refine Kd.C_drewN ?_ _) | (with_reducible refine Kd.C_drew ?_))); (case side2 => exact (Kd.R_reads' HO_9.out).2.1); rintro e w33 ⟨rfl, hb⟩; refine ⟨_, rfl, ?_⟩; have n0_ := asd (Kd.R_below (rUp HO_9.out) hb); have n1_ := asd (below_step hbw hb); clear HO_9; clear HB; have HO_9 := n0_; have HB := n1_; clear n0_ n1_; (try clear hb)))
          (try simp only [Act.put, List.setIfInBounds_toArray, List.set_cons_zero, List.set_cons_succ])
          go_cut [85] (fun v85 wc => ∃ (kq : Nat) (x85_30 : Bool), v85 = .bool x85_30 ∧ Aside0 (cusplaw05_SumsAny.j2 kq l0 t127 x85_30 = some r) ∧ Aside0 (kq ≤ k2) ∧ Aside0 (Below w.heap.size w wc))
          case first =>
           have H := HC31.out
           clear HC31
           replace H := Option.bind_eq_some_iff.mp H
           obtain ⟨t142, A340, H⟩ := H
           have A34 := asd A340
           clear A340
           by_cases c35 : t142 = true
           ·subst c35
            rw [if_pos rfl] at H
            have H' := asd H
            clear H
            go_wp2_with (first | ((with_reducible refine gate_callee (f := 11) rfl ?_); refine goesL_ (some 79) rfl rfl Tryz.func11 (by kernel_rfl) rfl #[.float .f64 t126, .float .f64 t140] rfl eqA ?_; (with_reducible refine (cusplaw05_same.calls t126 t140 true _ A34.out).mono ?_); rintro e w' ⟨rfl, ⟨nd, rfl⟩⟩; refine ⟨_, rfl, ?_⟩))
            go_meet
            case rel => exact ⟨_, ((t127 != t141)), eqB, H', ⟨by have := HJ4.out; have := HK2.out; first | omega | exact Nat.le_refl _⟩, ⟨hbw⟩⟩
           ·replace c35 := Bool.eq_false_iff.mpr c35
            subst c35
            rw [if_neg (show ¬ (false = true) by decide)] at H
            have H' := asd H
            clear H
            go_wp2_with (first | ((with_reducible refine gate_callee (f := 11) rfl ?_); refine goesL_ (some 79) rfl rfl Tryz.func11 (by kernel_rfl) rfl #[.float .f64 t126, .float .f64 t140] rfl eqA ?_; (with_reducible refine (cusplaw05_same.calls t126 t140 false _ A34.out).mono ?_); rintro e w' ⟨rfl, ⟨nd, rfl⟩⟩; refine ⟨_, rfl, ?_⟩))
            go_meet
            case rel => exact ⟨_, (true), eqB, H', ⟨by have := HJ4.out; have := HK2.out; first | omega | exact Nat.le_refl _⟩, ⟨hbw⟩⟩
          case rest =>
           clear HC31
           try clear c1
           try clear p1
           try clear q1
           try clear hx1
           try clear c2
           try clear p2
           try clear q2
           try clear hx2
           try clear c3
           try clear p6
           try clear c7
           try clear c7b0
           try clear c7b1
           try clear c8
           try clear c8b0
           try clear c8b1
           try clear c8b2
           try clear c9
           try clear c9b0
           try clear c9b1
           try clear c10
           try clear c10b0
           try clear c10b1
           try clear c11
           try clear c12
           try clear c12b0
           try clear c13
           try clear c13b0
           try clear p13
           try clear q13
           try clear hx13
           try clear c14
           try clear c19
           try clear c19b0
           try clear c21
           try clear c21b0
           try clear c22
           try clear c22b0
           try clear c23
           try clear c23b0
           try clear p24
           try clear q24
           try clear hx24
           try clear hf24
           try clear p25
           try clear q25
           try clear hx25
           try clear hf25
           try clear c35
           try clear hx136_0
           try clear hx137_0
           try clear hx24_0
           try clear hx25_0
           try clear p136
           try clear p137
           try clear p2
           try clear p24
           try clear p25
           try clear p6
           try clear q136
           try clear q137
           try clear q24
           try clear q25
           obtain ⟨kq, x85_30, rfl, HA, HJ30, HB⟩ := hcut
           cases kq with
           | zero => exact absurd HA.out (by simp [cusplaw05_SumsAny.j2])
           | succ kj30 =>
            have H := HA.out
            clear HA
            simp only [cusplaw05_SumsAny.j2] at H
            by_cases c36 : x85_30 = true
            ·subst c36
             rw [if_pos rfl] at H
             obtain rfl := Option.some.inj H
             go_wp2
             go_ret
             exact ⟨eqC, hbw⟩
            ·replace c36 := Bool.eq_false_iff.mpr c36
             subst c36
             rw [if_neg (show ¬ (false = true) by decide)] at H
             replace H := Option.bind_eq_some_iff.mp H
             obtain ⟨⟨t143, t144⟩, A370, H⟩ := H
             replace H : (if t144 = 0 then (cusplaw05_SumsAny.j3 kj30 l0 t143 (t127 != 0)) else (cusplaw05_SumsAny.j3 kj30 l0 t143 true)) = some r := H
             have A37 := asd A370
             clear A370
             have HC38 := asd H
             clear H
             go_upto_region 16 with (first | ((with_reducible refine gate_callee (f := 28) rfl ?_); refine goesL_ (some 88) rfl rfl Tryz.func28 (by kernel_rfl) rfl #[.slice A0 l0.length c0] rfl eqA ?_; (with_reducible refine (sums_Apart.calls _ _ l0 t143 t144 _ ?side1 ?side2 A37.out).mono ?_); (case side1 => repeat (first | exact (Kd.C_below HR0.out HB.out) | (with_reducible refine Kd.C_alloc ?_ _) | (with_reducible refine Kd.C_drewN ?_ _) | (with_reducible refine Kd.C_drew ?_))); (case side2 => exact HC0.out); rintro e w39 ⟨v145, rfl, ho0, hb⟩; refine ⟨_, rfl, ?_⟩; have n0_ := asd (Kd.R_lower ho0 (below_size hbw)); have n1_ := asd (below_step hbw hb); clear HB; have HO146 := n0_; have HB := n1_; clear n0_ n1_; (try clear hb); (try clear ho0)))
             (try simp only [Act.put, List.setIfInBounds_toArray, List.set_cons_zero, List.set_cons_succ])
             go_cut [96] (fun v96 wc => ∃ (kq : Nat) (x96_37 : Bool), v96 = .bool x96_37 ∧ Aside0 (cusplaw05_SumsAny.j3 kq l0 t143 x96_37 = some r) ∧ Aside0 (kq ≤ kj30) ∧ Aside0 (Kd.R Kd.float 25 wc w.heap.size (fun _ => True) v145 t143) ∧ Aside0 (Below w.heap.size w wc))
             case first =>
              have H := HC38.out
              clear HC38
              by_cases c40 : t144 = 0
              ·rw [if_pos c40] at H
               have c40b0 := beq_iff_eq.mpr c40
               have c40b1 := bne_eq_false_iff_eq.mpr c40
               clear c40
               (first | rw [c40b0] | (simp only [i64_w, i32_w]; rw [c40b0]) | skip)
               have H' := asd H
               clear H
               go_wp2
               go_meet
               case rel => exact ⟨_, ((t127 != 0)), eqB, H', ⟨by have := HJ4.out; have := HK2.out; have := HJ30.out; first | omega | exact Nat.le_refl _⟩, ⟨by (with_reducible repeat (first | apply Kd.R_alloc | apply Kd.R_drewN | apply Kd.R_drew)); exact HO146.out⟩, ⟨hbw⟩⟩
              ·rw [if_neg c40] at H
               have c40b0 := beq_eq_false_iff_ne.mpr c40
               have c40b1 := bne_iff_ne.mpr c40
               (first | rw [c40b0] | (simp only [i64_w, i32_w]; rw [c40b0]) | skip)
               have H' := asd H
               clear H
               go_wp2
               go_meet
               case rel => exact ⟨_, (true), eqB, H', ⟨by have := HJ4.out; have := HK2.out; have := HJ30.out; first | omega | exact Nat.le_refl _⟩, ⟨by (with_reducible repeat (first | apply Kd.R_alloc | apply Kd.R_drewN | apply Kd.R_drew)); exact HO146.out⟩, ⟨hbw⟩⟩
             case rest =>
              clear HC38
              try clear c1
              try clear p1
              try clear q1
              try clear hx1
              try clear c2
              try clear p2
              try clear q2
              try clear hx2
              try clear c3
              try clear c4
              try clear p6
              try clear c7
              try clear c7b0
              try clear c7b1
              try clear c8
              try clear c8b0
              try clear c8b1
              try clear c8b2
              try clear c9
              try clear c9b0
              try clear c9b1
              try clear c10
              try clear c10b0
              try clear c10b1
              try clear c11
              try clear c12
              try clear c12b0
              try clear c13
              try clear c13b0
              try clear p13
              try clear q13
              try clear hx13
              try clear c14
              try clear c19
              try clear c19b0
              try clear c21
              try clear c21b0
              try clear c22
              try clear c22b0
              try clear c23
              try clear c23b0
              try clear p24
              try clear q24
              try clear hx24
              try clear hf24
              try clear p25
              try clear q25
              try clear hx25
              try clear hf25
              try clear c28
              try clear c35
              try clear c36
              try clear c40
              try clear c40b0
              try clear c40b1
              try clear hx136_0
              try clear hx137_0
              try clear hx24_0
              try clear hx25_0
              try clear p1
              try clear p13
              try clear p136
              try clear p137
              try clear p2
              try clear p24
              try clear p25
              try clear p6
              try clear q1
              try clear q13
              try clear q136
              try clear q137
              try clear q2
              try clear q24
              try clear q25
              obtain ⟨kq, x96_37, rfl, HA, HJ37, HO_14, HB⟩ := hcut
              cases kq with
              | zero => exact absurd HA.out (by simp [cusplaw05_SumsAny.j3])
              | succ kj37 =>
               have H := HA.out
               clear HA
               simp only [cusplaw05_SumsAny.j3] at H
               by_cases c41 : x96_37 = true
               ·subst c41
                rw [if_pos rfl] at H
                replace H := Option.bind_eq_some_iff.mp H
                obtain ⟨t147, A420, H⟩ := H
                have A42 := asd A420
                clear A420
                obtain rfl := Option.some.inj H
                go_wp2_with (first | ((with_reducible refine gate_callee (f := 19) rfl ?_); refine goesL_ (some 97) rfl rfl Tryz.func19 (by kernel_rfl) rfl #[] rfl eqA ?_; (with_reducible refine (cusplaw05_sure.calls  t147 _ A42.out).mono ?_); rintro e w43 ⟨rfl, hb⟩; refine ⟨_, rfl, ?_⟩; have n0_ := asd (Kd.R_below (rUp HO_14.out) hb); have n1_ := asd (below_step hbw hb); clear HO_14; clear HB; have HO_14 := n0_; have HB := n1_; clear n0_ n1_; (try clear hb)))
                go_ret
                exact ⟨eqC, hbw⟩
               ·replace c41 := Bool.eq_false_iff.mpr c41
                subst c41
                rw [if_neg (show ¬ (false = true) by decide)] at H
                have H' := asd H
                clear H
                go_wp2_with (first | ((with_reducible refine gate_dst (N := 16) rfl ?_); refine box_event ?hg (N := 16) ?hd (cs := #[.bool false, .slice none 0 0, .int .i64 0]) (t := 41) ?hr ?_; (case hd => rfl); (case hg => rfl); (case hr => first | (go_simp; done) | (go_simp; rfl)); intro gb148 hg w44 hbox hb; have n0_ := asd (Kd.R_below (rUp HO_14.out) hb); have n1_ := asd (below_step hbw hb); have n2_ := asd (hbox); have n3_ := asd ((by rw [hg]; exact (below_size hbw) : w.heap.size ≤ gb148)); have n4_ := asd ((by rw [hg]; exact (below_size hbw) : w.heap.size ≤ gb148)); clear HO_14; clear HB; have HO_14 := n0_; have HB := n1_; have BK148 := n2_; have GW148 := n3_; have GE148 := n4_; clear n0_ n1_ n2_ n3_ n4_; clear hb hbox hg; obtain ⟨hcz45_0, hcz45_1, hcz45_2, hfz45_0, hfz45_1, hfz45_2⟩ := cz3 BK148.out))
                go_loopg [17] kj37 (fun kq v17 w' => ∃ (x17_5 : Int) (x149000_5 : Bool) (x149001_5 : List Int) (x149002_5 : Int) (u149001 : Value), v17 = .int .i64 x17_5 ∧ Aside0 (cusplaw05_SumsAny.l1 kq l0 t143 x17_5 x149000_5 x149001_5 x149002_5 = some r) ∧ Aside0 (kq ≤ kj37) ∧ Aside0 (Kd.R Kd.float 25 w' w.heap.size (fun _ => True) v145 t143) ∧ Aside0 (Kd.R (Kd.int .u32) 83 w' w.heap.size (fun _ => True) u149001 x149001_5) ∧ Aside0 (w'.heap[gb148]? = some (.cells #[.bool x149000_5, u149001, .int .i64 x149002_5] 41 (0, 0))) ∧ Aside0 (Below w.heap.size w w'))
                case atStart => exact ⟨(0), (false), (([] : List Int)), (0), (.slice none 0 0), eqB, H', ⟨Nat.le_refl _⟩, ⟨by (with_reducible repeat (first | apply Kd.R_alloc | apply Kd.R_drewN | apply Kd.R_drew)); exact Kd.R_mono (Kd.R_far (p := ⟨gb148, 2, none⟩) (Kd.R_far (p := ⟨gb148, 1, none⟩) (Kd.R_far (p := ⟨gb148, 0, none⟩) (Kd.R_types HO_14.out BK148.out (by decide)) (fun _ hk => hk.2) (.bool false)) (fun _ hk => hk.2) (.slice none 0 0)) (fun _ hk => hk.2) (.int .i64 0)) (fun _ hk => trivial)⟩, ⟨by first | exact Kd.R_nil _ _ _ _ _ | exact Kd.N_nil _ _ _ _ _ | exact Kd.V_nil _ _ _ _ _ | exact Kd.Q_nil _ _ _ _ _ | exact Kd.S_nil _ _ _ _ _⟩, ⟨by (with_reducible repeat (first | refine blk_drewN ?_ _ | refine blk_drew ?_ | refine blk_alloc ?_ _)); refine blk_put (cs := #[.bool false, .slice none 0 0, .int .i64 0]) ?_ 2 _ rfl; (with_reducible repeat (first | refine blk_drewN ?_ _ | refine blk_drew ?_ | refine blk_alloc ?_ _)); refine blk_put (cs := #[.bool false, .slice none 0 0, .int .i64 0]) ?_ 1 _ rfl; (with_reducible repeat (first | refine blk_drewN ?_ _ | refine blk_drew ?_ | refine blk_alloc ?_ _)); refine blk_put (cs := #[.bool false, .slice none 0 0, .int .i64 0]) ?_ 0 _ rfl; (with_reducible repeat (first | refine blk_drewN ?_ _ | refine blk_drew ?_ | refine blk_alloc ?_ _)); exact BK148.out⟩, ⟨hbs⟩⟩
                case round =>
                 clear H'
                 try clear c1
                 try clear p1
                 try clear q1
                 try clear hx1
                 try clear c2
                 try clear p2
                 try clear q2
                 try clear hx2
                 try clear c3
                 try clear c4
                 try clear p6
                 try clear c7
                 try clear c7b0
                 try clear c7b1
                 try clear c8
                 try clear c8b0
                 try clear c8b1
                 try clear c8b2
                 try clear c9
                 try clear c9b0
                 try clear c9b1
                 try clear c10
                 try clear c10b0
                 try clear c10b1
                 try clear c11
                 try clear c12
                 try clear c12b0
                 try clear c13
                 try clear c13b0
                 try clear p13
                 try clear q13
                 try clear hx13
                 try clear c14
                 try clear c19
                 try clear c19b0
                 try clear c21
                 try clear c21b0
                 try clear c22
                 try clear c22b0
                 try clear c23
                 try clear c23b0
                 try clear p24
                 try clear q24
                 try clear hx24
                 try clear hf24
                 try clear p25
                 try clear q25
                 try clear hx25
                 try clear hf25
                 try clear c28
                 try clear c35
                 try clear c36
                 try clear c40
                 try clear c40b0
                 try clear c40b1
                 try clear c41
                 try clear hcz45_0
                 try clear hcz45_1
                 try clear hcz45_2
                 try clear hfz45_0
                 try clear hfz45_1
                 try clear hfz45_2
                 try clear hx136_0
                 try clear hx137_0
                 try clear hx24_0
                 try clear hx25_0
                 try clear p1
                 try clear p13
                 try clear p136
                 try clear p137
                 try clear p2
                 try clear p24
                 try clear p25
                 try clear p6
                 try clear q1
                 try clear q13
                 try clear q136
                 try clear q137
                 try clear q2
                 try clear q24
                 try clear q25
                 obtain ⟨x17_5, x149000_5, x149001_5, x149002_5, u149001, rfl, HA, HK5, HO_14, HO_149001, BK148, HB⟩ := hrel
                 cases gk with
                 | zero => exact absurd HA.out (by simp [cusplaw05_SumsAny.l1])
                 | succ k5 =>
                  have H := HA.out
                  clear HA
                  simp only [cusplaw05_SumsAny.l1] at H
                  by_cases c46 : x17_5 < (l0.length : Int)
                  ·rw [if_pos c46] at H
                   have c46b0 := decide_eq_true c46
                   clear c46
                   by_cases c47 : 0 ≤ x17_5
                   ·rw [if_pos c47] at H
                    have c47b0 := decide_eq_true c47
                    clear c47
                    replace H := Option.bind_eq_some_iff.mp H
                    obtain ⟨⟨t150, t151, t154⟩, A480, H⟩ := H
                    replace H : ((cuspref02_Plus.f x149000_5 x149001_5 x149002_5 t150 t151 t154).bind fun bt155 => (cusplaw05_SumsAny.l1 k5 l0 t143 (wrap64 (x17_5 + 1)) bt155.1 bt155.2.1 bt155.2.2)) = some r := H
                    have A48 := asd A480
                    clear A480
                    replace H := Option.bind_eq_some_iff.mp H
                    obtain ⟨⟨t155, t156, t159⟩, A490, H⟩ := H
                    replace H : (cusplaw05_SumsAny.l1 k5 l0 t143 (wrap64 (x17_5 + 1)) t155 t156 t159) = some r := H
                    have A49 := asd A490
                    clear A490
                    have H' := asd H
                    clear H
                    try go_wp2
                    have n0_ := asd (Kd.R_drew HO_14.out)
                    have n1_ := asd (Kd.R_drew HO_149001.out)
                    have n2_ := asd (blk_drew BK148.out)
                    have n3_ := asd (below_drew1 HB.out)
                    clear HO_14
                    clear HO_149001
                    clear BK148
                    clear HB
                    have HO_14 := n0_
                    have HO_149001 := n1_
                    have BK148 := n2_
                    have HB := n3_
                    clear n0_ n1_ n2_ n3_
                    have p149 : 0 ≤ (x17_5 : Int) := odt
                    have q149 : x17_5 < (l0.length : Int) := odt
                    obtain ⟨ad149, e149, hx149_0⟩ := Kd.at_float HR0.out x17_5 p149 q149
                    have hw149_0 := hx149_0
                    cases e149
                    replace hx149_0 := (HB.out.cell (World.block_lt_of_cell? w _ hx149_0)).trans hx149_0
                    replace p149 := eq_true p149
                    replace q149 := eq_true q149
                    refine start_ (n := 8) (S := fun w' => w'.cell? ⟨gb148, 0, none⟩ = some (.bool x149000_5) ∧ w'.cell? ⟨gb148, 1, none⟩ = some (u149001) ∧ w'.cell? ⟨gb148, 2, none⟩ = some (.int .i64 x149002_5) ∧ w'.cell? (ad149.add (x17_5).toNat) = some (.float .f64 (rdOf (0 : Nat) l0 x17_5))) (ds := [7]) #[false, false, false, false, false, false, false, false] (by kernel_rfl) rfl rfl ⟨(blk_cell BK148.out 0).trans rfl, (blk_cell BK148.out 1).trans rfl, (blk_cell BK148.out 2).trans rfl, ((HB.out.cell (World.block_lt_of_cell? w _ hw149_0)).trans hw149_0)⟩ (fun hHeld => ?_); refine with_tabW cusplaw05_SumsAny.tab22 cusplaw05_SumsAny.bits22 (fun HT_ HW_ => ?_)
                    generalize wr.drew = w50 at HO_14 HO_149001 BK148 HB hx149_0 hHeld ⊢
                    refine pure_ (i := 1) (N := some 106) (v := ?_) (a' := ?_) #[false, true, false, false, false, false, false, false] rfl rfl (any_of HT_.out (by kernel_rfl)) (fun _ _ _ h => h) (Or.inl ⟨by rfl, ?_⟩) ?_ ?_
                    rotate_left
                    ·intro w'
                     go_simp
                     with_reducible rfl
                    rotate_left
                    ·simp only [Act.put, List.setIfInBounds_toArray, List.set_cons_zero, List.set_cons_succ, i64_w, i32_w]
                     rfl
                    refine pure_ (i := 2) (N := some 107) (v := ?_) (a' := ?_) #[false, true, true, false, false, false, false, false] rfl rfl (any_of HT_.out (by kernel_rfl)) (fun _ _ _ h => h) (Or.inl ⟨by rfl, ?_⟩) ?_ ?_
                    rotate_left
                    ·intro w'
                     go_simp
                     with_reducible rfl
                    rotate_left
                    ·simp only [Act.put, List.setIfInBounds_toArray, List.set_cons_zero, List.set_cons_succ, i64_w, i32_w]
                     rfl
                    refine pure_ (i := 3) (N := some 108) (v := ?_) (a' := ?_) #[false, true, true, true, false, false, false, false] rfl rfl (any_of HT_.out (by kernel_rfl)) (fun _ _ _ h => h) (Or.inl ⟨by rfl, ?_⟩) ?_ ?_
                    rotate_left
                    ·intro w'
                     go_simp
                     with_reducible rfl
                    rotate_left
                    ·simp only [Act.put, List.setIfInBounds_toArray, List.set_cons_zero, List.set_cons_succ, i64_w, i32_w]
                     rfl
                    refine take_ (i := 0) (N := some 105) (v := ?_) (a' := ?_) #[true, true, true, true, false, false, false, false] rfl rfl (take_ofW HT_.out HW_.out (by kernel_rfl)) (fun _ _ _ h => h) (Or.inl ⟨by rfl, ?_⟩) hHeld ?_ ?_
                    rotate_left
                    ·rintro w' ⟨s0, s1, s2, s3⟩
                     go_simp
                     with_reducible rfl
                    rotate_left
                    ·simp only [Act.put, List.setIfInBounds_toArray, List.set_cons_zero, List.set_cons_succ, i64_w, i32_w]
                     rfl
                    refine take_ (i := 4) (N := some 109) (v := ?_) (a' := ?_) #[true, true, true, true, true, false, false, false] rfl rfl (take_ofW HT_.out HW_.out (by kernel_rfl)) (fun _ _ _ h => h) (Or.inl ⟨by rfl, ?_⟩) hHeld ?_ ?_
                    rotate_left
                    ·rintro w' ⟨s0, s1, s2, s3⟩
                     go_simp
                     with_reducible rfl
                    rotate_left
                    ·simp only [Act.put, List.setIfInBounds_toArray, List.set_cons_zero, List.set_cons_succ, i64_w, i32_w]
                     rfl
                    refine one_ (i := 5) (N := some 110) #[true, true, true, true, true, true, false, false] rfl rfl (one_of HT_.out (by kernel_rfl)) (by decide) (fun K hK => ?_)
                    refine goes_ Tryz.func26 (by kernel_rfl) rfl #[.float .f64 (rdOf (0 : Nat) l0 x17_5)] (by rfl) rfl rfl eqA ?_
                    with_reducible refine (cuspref02_Float.calls k5 (rdOf (0 : Nat) l0 x17_5) t150 t151 t154 _ A48.out).mono ?_
                    rintro e w51 ⟨v152, rfl, ho0, hb⟩
                    refine ⟨_, rfl, ?_⟩
                    have n0_ := asd (Kd.R_below (rUp HO_14.out) hb)
                    have n1_ := asd (Kd.R_elder' (rUp HO_149001.out) (Kd.R_base ho0) hb)
                    have n2_ := asd (Kd.R_lower (Kd.R_new' ho0 (Kd.R_lt (rUp HO_149001.out))) (below_size hbs))
                    have n3_ := asd (blk_below (g := gb148) (o := .cells #[.bool x149000_5, u149001, .int .i64 x149002_5] 41 (0, 0)) (blkU BK148.out) hb)
                    have n4_ := asd (below_step hbs hb)
                    clear HO_14
                    clear HO_149001
                    clear BK148
                    clear HB
                    have HO_14 := n0_
                    have HO_149001 := n1_
                    have HO153 := n2_
                    have BK148 := n3_
                    have HB := n4_
                    clear n0_ n1_ n2_ n3_ n4_
                    (try clear hb)
                    (try clear hb2)
                    (try clear hk)
                    (try clear hi)
                    (try clear ho0)
                    obtain ⟨Ao52, co52, eo52⟩ := Kd.R_slice HO_149001.out
                    (first | subst eo52 | (injection eo52 with f1_ f2_ f3_; have f4_ := f1_.symm; have f5_ := f3_.symm; clear f1_ f2_ f3_; subst f4_; subst f5_))
                    obtain ⟨Ao53, co53, eo53⟩ := Kd.R_slice HO153.out
                    (first | subst eo53 | (injection eo53 with f1_ f2_ f3_; have f4_ := f1_.symm; have f5_ := f3_.symm; clear f1_ f2_ f3_; subst f4_; subst f5_))
                    refine hK.out _ _ ⟨(blk_cell BK148.out 0).trans rfl, (blk_cell BK148.out 1).trans rfl, (blk_cell BK148.out 2).trans rfl, ((HB.out.cell (World.block_lt_of_cell? w _ hw149_0)).trans hw149_0)⟩ (fun hHeld => ?_)
                    clear hK K
                    refine norm_ (a' := ?_) ?_ ?_
                    rotate_left
                    ·show Act.put _ (some 110) _ = _
                     simp only [Act.put, List.setIfInBounds_toArray, List.set_cons_zero, List.set_cons_succ, i64_w, i32_w]
                     rfl
                    refine one_ (i := 6) (N := some 111) #[true, true, true, true, true, true, true, false] rfl rfl (one_of HT_.out (by kernel_rfl)) (by decide) (fun K hK => ?_)
                    refine goes_ Tryz.func25 (by kernel_rfl) rfl #[.agg #[.bool x149000_5, .slice Ao52 x149001_5.length co52, .int .i64 x149002_5], .agg #[.bool t150, .slice Ao53 t151.length co53, .int .i64 t154]] (by rfl) rfl rfl eqA ?_
                    with_reducible refine (cuspref02_Plus.calls x149000_5 _ _ x149001_5 x149002_5 t150 _ _ t151 t154 t155 t156 t159 _ ?side1 ?side2 ?side3 ?side4 A49.out).mono ?_
                    (case side1 => repeat (first | exact (Kd.R_reads' HO_149001.out).2.2 | (with_reducible refine Kd.C_alloc ?_ _) | (with_reducible refine Kd.C_drewN ?_ _) | (with_reducible refine Kd.C_drew ?_)))
                    (case side2 => exact (Kd.R_reads' HO_149001.out).2.1)
                    (case side3 => repeat (first | exact (Kd.R_reads' HO153.out).2.2 | (with_reducible refine Kd.C_alloc ?_ _) | (with_reducible refine Kd.C_drewN ?_ _) | (with_reducible refine Kd.C_drew ?_)))
                    (case side4 => exact (Kd.R_reads' HO153.out).2.1)
                    rintro e w54 ⟨v157, rfl, ho0, hb⟩
                    refine ⟨_, rfl, ?_⟩
                    have n0_ := asd (Kd.R_below (rUp HO_14.out) hb)
                    have n1_ := asd (Kd.R_elder' (rUp HO_149001.out) (Kd.R_base ho0) hb)
                    have n2_ := asd (Kd.R_elder' (rUp HO153.out) (Kd.R_base ho0) hb)
                    have n3_ := asd (Kd.R_lower (Kd.R_new' (Kd.R_new' ho0 (Kd.R_lt (rUp HO_149001.out))) (Kd.R_lt (rUp HO153.out))) (below_size hbs))
                    have n4_ := asd (blk_below (g := gb148) (o := .cells #[.bool x149000_5, .slice Ao52 x149001_5.length co52, .int .i64 x149002_5] 41 (0, 0)) (blkU BK148.out) hb)
                    have n5_ := asd (below_step hbs hb)
                    clear HO_14
                    clear HO_149001
                    clear HO153
                    clear BK148
                    clear HB
                    have HO_14 := n0_
                    have HO_149001 := n1_
                    have HO153 := n2_
                    have HO158 := n3_
                    have BK148 := n4_
                    have HB := n5_
                    clear n0_ n1_ n2_ n3_ n4_ n5_
                    (try clear hb)
                    (try clear hb2)
                    (try clear hk)
                    (try clear hi)
                    (try clear ho0)
                    obtain ⟨Ao56, co56, eo56⟩ := Kd.R_slice HO158.out
                    (first | subst eo56 | (injection eo56 with f1_ f2_ f3_; have f4_ := f1_.symm; have f5_ := f3_.symm; clear f1_ f2_ f3_; subst f4_; subst f5_))
                    refine hK.out _ _ ⟨(blk_cell BK148.out 0).trans rfl, (blk_cell BK148.out 1).trans rfl, (blk_cell BK148.out 2).trans rfl, ((HB.out.cell (World.block_lt_of_cell? w _ hw149_0)).trans hw149_0)⟩ (fun hHeld => ?_)
                    clear hK K
                    refine norm_ (a' := ?_) ?_ ?_
                    rotate_left
                    ·show Act.put _ (some 111) _ = _
                     simp only [Act.put, List.setIfInBounds_toArray, List.set_cons_zero, List.set_cons_succ, i64_w, i32_w]
                     rfl
                    refine last_ (i := 7) (N := none) #[true, true, true, true, true, true, true, true] rfl rfl (one_of HT_.out (by kernel_rfl)) (by decide) (fun K hK => ?_)
                    have hs55 : w54.cell? ⟨gb148, 0, none⟩ = some (.bool x149000_5) := (blk_cell BK148.out 0).trans rfl
                    have hfs55 := blk_frozen BK148.out 0
                    have hs57 : w54.cell? ⟨gb148, 1, none⟩ = some (.slice Ao52 x149001_5.length co52) := (blk_cell BK148.out 1).trans rfl
                    have hfs57 := blk_frozen BK148.out 1
                    have hs58 : w54.cell? ⟨gb148, 2, none⟩ = some (.int .i64 x149002_5) := (blk_cell BK148.out 2).trans rfl
                    have hfs58 := blk_frozen BK148.out 2
                    refine skip_ (w1 := ?_) (by rfl) rfl ?_ ?_
                    rotate_left
                    ·go_simp
                     rfl
                    refine hK.out _ _ ?_
                    clear hK K
                    refine done_ (done_of HT_.out (by kernel_rfl)) ?_
                    try go_wp2
                    go_roundg k5
                    case measure => have := HJ4.out; have := HK2.out; have := HJ30.out; have := HJ37.out; have := HK5.out; omega
                    case rel => exact ⟨(wrap64 (x17_5 + 1)), (t155), (t156), (t159), (.slice Ao56 t156.length co56), eqB, H', ⟨by have := HJ4.out; have := HK2.out; have := HJ30.out; have := HJ37.out; have := HK5.out; omega⟩, ⟨by (with_reducible repeat (first | apply Kd.R_alloc | apply Kd.R_drewN | apply Kd.R_drew)); exact Kd.R_mono (Kd.R_far (p := ⟨gb148, 2, none⟩) (Kd.R_far (p := ⟨gb148, 1, none⟩) (Kd.R_far (p := ⟨gb148, 0, none⟩) (Kd.R_types HO_14.out BK148.out (by decide)) (fun _ hk => hk.2) (.bool t155)) (fun _ hk => hk.2) (.slice Ao56 t156.length co56)) (fun _ hk => hk.2) (.int .i64 t159)) (fun _ hk => trivial)⟩, ⟨by (with_reducible repeat (first | apply Kd.R_alloc | apply Kd.R_drewN | apply Kd.R_drew)); exact Kd.R_mono (Kd.R_far (p := ⟨gb148, 2, none⟩) (Kd.R_far (p := ⟨gb148, 1, none⟩) (Kd.R_far (p := ⟨gb148, 0, none⟩) (Kd.R_types HO158.out BK148.out (by decide)) (fun _ hk => hk.2) (.bool t155)) (fun _ hk => hk.2) (.slice Ao56 t156.length co56)) (fun _ hk => hk.2) (.int .i64 t159)) (fun _ hk => trivial)⟩, ⟨by (with_reducible repeat (first | refine blk_drewN ?_ _ | refine blk_drew ?_ | refine blk_alloc ?_ _)); refine blk_put (cs := #[.bool t155, .slice Ao56 t156.length co56, .int .i64 x149002_5]) ?_ 2 _ rfl; (with_reducible repeat (first | refine blk_drewN ?_ _ | refine blk_drew ?_ | refine blk_alloc ?_ _)); refine blk_put (cs := #[.bool t155, .slice Ao52 x149001_5.length co52, .int .i64 x149002_5]) ?_ 1 _ rfl; (with_reducible repeat (first | refine blk_drewN ?_ _ | refine blk_drew ?_ | refine blk_alloc ?_ _)); refine blk_put (cs := #[.bool x149000_5, .slice Ao52 x149001_5.length co52, .int .i64 x149002_5]) ?_ 0 _ rfl; (with_reducible repeat (first | refine blk_drewN ?_ _ | refine blk_drew ?_ | refine blk_alloc ?_ _)); exact BK148.out⟩, ⟨hbs⟩⟩
                   ·rw [if_neg c47] at H
                    exact absurd H (by simp)
                  ·rw [if_neg c46] at H
                   have c46b0 := decide_eq_false c46
                   clear c46
                   have H' := asd H
                   clear H
                   go_wp2
                   go_loopg [18] k5 (fun kq v18 w' => ∃ (x18_6 : Int) (x149000_6 : Bool) (x149001_6 : List Int) (x149002_6 : Int) (u149001 : Value), v18 = .int .i64 x18_6 ∧ Aside0 (cusplaw05_SumsAny.l2 kq t143 x18_6 x149000_6 x149001_6 x149002_6 = some r) ∧ Aside0 (kq ≤ k5) ∧ Aside0 (Kd.R Kd.float 25 w' w.heap.size (fun _ => True) v145 t143) ∧ Aside0 (Kd.R (Kd.int .u32) 83 w' w.heap.size (fun _ => True) u149001 x149001_6) ∧ Aside0 (w'.heap[gb148]? = some (.cells #[.bool x149000_6, u149001, .int .i64 x149002_6] 41 (0, 0))) ∧ Aside0 (Below w.heap.size w w'))
                   case atStart => exact ⟨(0), (x149000_5), (x149001_5), (x149002_5), (u149001), eqB, H', ⟨Nat.le_refl _⟩, ⟨by (with_reducible repeat (first | apply Kd.R_alloc | apply Kd.R_drewN | apply Kd.R_drew)); exact HO_14.out⟩, ⟨by (with_reducible repeat (first | apply Kd.R_alloc | apply Kd.R_drewN | apply Kd.R_drew)); exact HO_149001.out⟩, ⟨by (with_reducible repeat (first | refine blk_drewN ?_ _ | refine blk_drew ?_ | refine blk_alloc ?_ _)); exact BK148.out⟩, ⟨hbs⟩⟩
                   case round =>
                    clear H'
                    try clear c1
                    try clear p1
                    try clear q1
                    try clear hx1
                    try clear c2
                    try clear p2
                    try clear q2
                    try clear hx2
                    try clear c3
                    try clear c4
                    try clear p6
                    try clear c7
                    try clear c7b0
                    try clear c7b1
                    try clear c8
                    try clear c8b0
                    try clear c8b1
                    try clear c8b2
                    try clear c9
                    try clear c9b0
                    try clear c9b1
                    try clear c10
                    try clear c10b0
                    try clear c10b1
                    try clear c11
                    try clear c12
                    try clear c12b0
                    try clear c13
                    try clear c13b0
                    try clear p13
                    try clear q13
                    try clear hx13
                    try clear c14
                    try clear p14
                    try clear q14
                    try clear hx14
                    try clear c19
                    try clear c19b0
                    try clear c21
                    try clear c21b0
                    try clear c22
                    try clear c22b0
                    try clear c23
                    try clear c23b0
                    try clear p24
                    try clear q24
                    try clear hx24
                    try clear hf24
                    try clear c25
                    try clear p25
                    try clear q25
                    try clear hx25
                    try clear hf25
                    try clear c26
                    try clear c28
                    try clear c35
                    try clear c36
                    try clear c40
                    try clear c40b0
                    try clear c40b1
                    try clear c41
                    try clear c46
                    try clear c46b0
                    try clear c47
                    try clear c47b0
                    try clear hcz45_0
                    try clear hcz45_1
                    try clear hcz45_2
                    try clear hfz45_0
                    try clear hfz45_1
                    try clear hfz45_2
                    try clear hx136_0
                    try clear hx137_0
                    try clear hx149_0
                    try clear hx24_0
                    try clear hx25_0
                    try clear p1
                    try clear p13
                    try clear p136
                    try clear p137
                    try clear p149
                    try clear p2
                    try clear p24
                    try clear p25
                    try clear p6
                    try clear q1
                    try clear q13
                    try clear q136
                    try clear q137
                    try clear q149
                    try clear q2
                    try clear q24
                    try clear q25
                    obtain ⟨x18_6, x149000_6, x149001_6, x149002_6, u149001, rfl, HA, HK6, HO_14, HO_149001, BK148, HB⟩ := hrel
                    cases gk with
                    | zero => exact absurd HA.out (by simp [cusplaw05_SumsAny.l2])
                    | succ k6 =>
                     have H := HA.out
                     clear HA
                     simp only [cusplaw05_SumsAny.l2] at H
                     by_cases c59 : x18_6 < (t143.length : Int)
                     ·rw [if_pos c59] at H
                      have c59b0 := decide_eq_true c59
                      clear c59
                      have HC60 := asd H
                      clear H
                      obtain ⟨Ao61, co61, eo61⟩ := Kd.R_slice HO_14.out
                      subst eo61
                      go_upto_region 26 with (fail)
                      go_cut [142] (fun v142 wc => ∃ (kq : Nat) (x142_59 : Bool), v142 = .bool x142_59 ∧ Aside0 (cusplaw05_SumsAny.j6 kq t143 x18_6 x142_59 x149000_6 x149001_6 x149002_6 = some r) ∧ Aside0 (kq ≤ k6) ∧ Aside0 (Kd.R Kd.float 25 wc w.heap.size (fun _ => True) (.slice Ao61 t143.length co61) t143) ∧ Aside0 (Kd.R (Kd.int .u32) 83 wc w.heap.size (fun _ => True) u149001 x149001_6) ∧ Aside0 (wc.heap[gb148]? = some (.cells #[.bool x149000_6, u149001, .int .i64 x149002_6] 41 (0, 0))) ∧ Aside0 (Below w.heap.size w wc))
                      case first =>
                       have H := HC60.out
                       clear HC60
                       by_cases c62 : 0 ≤ x18_6
                       ·rw [if_pos c62] at H
                        have c62b0 := decide_eq_true c62
                        clear c62
                        (first | rw [c62b0] | (simp only [i64_w, i32_w]; rw [c62b0]) | skip)
                        replace H := Option.bind_eq_some_iff.mp H
                        obtain ⟨t163, A630, H⟩ := H
                        have A63 := asd A630
                        clear A630
                        by_cases c64 : t163 = true
                        ·subst c64
                         rw [if_pos rfl] at H
                         by_cases c65 : x18_6 > 0
                         ·rw [if_pos c65] at H
                          have c65b0 := decide_eq_true c65
                          clear c65
                          replace H := Option.bind_eq_some_iff.mp H
                          obtain ⟨t165, A660, H⟩ := H
                          have A66 := asd A660
                          clear A660
                          obtain ⟨ji67, hji67⟩ : ∃ j_ : Int, (wrap64 (x18_6 - 1)) = j_ := ⟨_, rfl⟩
                          first | rw [hji67] at H | simp only [hji67] at H ⊢
                          (try rw [hji67] at A63)
                          (try rw [hji67] at A66)
                          have hji67w : (IntKind.i64.wrap (x18_6 - 1)) = ji67 := (i64_w _).trans hji67
                          by_cases c68 : 0 ≤ (ji67)
                          ·rw [if_pos c68] at H
                           have c68b0 := decide_eq_true c68
                           clear c68
                           by_cases c69 : (ji67) < (t143.length : Int)
                           ·rw [if_pos c69] at H
                            have c69b0 := decide_eq_true c69
                            clear c69
                            replace H := Option.bind_eq_some_iff.mp H
                            obtain ⟨t167, A700, H⟩ := H
                            have A70 := asd A700
                            clear A700
                            by_cases c71 : ((floatBits .quo .f64 t167 (4611686018427387904 : Nat)).isSome) = true
                            ·rw [if_pos c71] at H
                             have c71b0 := eq_true c71
                             have c71b1 := decide_eq_true c71
                             clear c71
                             have H' := asd H
                             clear H
                             try go_wp2
                             have n0_ := asd (Kd.R_drew HO_14.out)
                             have n1_ := asd (Kd.R_drew HO_149001.out)
                             have n2_ := asd (blk_drew BK148.out)
                             have n3_ := asd (below_drew1 HB.out)
                             clear HO_14
                             clear HO_149001
                             clear BK148
                             clear HB
                             have HO_14 := n0_
                             have HO_149001 := n1_
                             have BK148 := n2_
                             have HB := n3_
                             clear n0_ n1_ n2_ n3_
                             have p162 : 0 ≤ (x18_6 : Int) := odt
                             have q162 : x18_6 < (t143.length : Int) := odt
                             obtain ⟨ad162, e162, hx162_0⟩ := Kd.at_float (Kd.R_reads' HO_14.out).2.2 x18_6 p162 q162
                             cases e162
                             replace p162 := eq_true p162
                             replace q162 := eq_true q162
                             have p164 : 0 ≤ (x18_6 : Int) := odt
                             have q164 : x18_6 < (t143.length : Int) := odt
                             obtain ⟨ad164, e164, hx164_0⟩ := Kd.at_float (Kd.R_reads' HO_14.out).2.2 x18_6 p164 q164
                             obtain rfl : ad162 = ad164 := (by injection e164)
                             replace p164 := eq_true p164
                             replace q164 := eq_true q164
                             have p166 : 0 ≤ ((ji67) : Int) := odt
                             have q166 : (ji67) < (t143.length : Int) := odt
                             obtain ⟨ad166, e166, hx166_0⟩ := Kd.at_float (Kd.R_reads' HO_14.out).2.2 (ji67) p166 q166
                             obtain rfl : ad162 = ad166 := (by injection e166)
                             replace p166 := eq_true p166
                             replace q166 := eq_true q166
                             refine start_ (n := 25) (S := fun w' => w'.cell? (ad162.add (x18_6).toNat) = some (.float .f64 (rdOf (0 : Nat) t143 x18_6)) ∧ w'.cell? (ad162.add (x18_6).toNat) = some (.float .f64 (rdOf (0 : Nat) t143 x18_6)) ∧ w'.cell? (ad162.add ((ji67)).toNat) = some (.float .f64 (rdOf (0 : Nat) t143 (ji67)))) (ds := []) #[false, false, false, false, false, false, false, false, false, false, false, false, false, false, false, false, false, false, false, false, false, false, false, false, false] (by kernel_rfl) rfl rfl ⟨hx162_0, hx164_0, hx166_0⟩ (fun hHeld => ?_); refine with_tabW cusplaw05_SumsAny.tab26 cusplaw05_SumsAny.bits26 (fun HT_ HW_ => ?_)
                             generalize wr.drew = w72 at HO_14 HO_149001 BK148 HB hx162_0 hx164_0 hx166_0 hHeld ⊢
                             refine pure_ (i := 0) (N := some 118) (v := ?_) (a' := ?_) #[true, false, false, false, false, false, false, false, false, false, false, false, false, false, false, false, false, false, false, false, false, false, false, false, false] rfl rfl (any_of HT_.out (by kernel_rfl)) (fun _ _ _ h => h) (Or.inl ⟨by rfl, ?_⟩) ?_ ?_
                             rotate_left
                             ·intro w'
                              go_simp
                              with_reducible rfl
                             rotate_left
                             ·simp only [Act.put, List.setIfInBounds_toArray, List.set_cons_zero, List.set_cons_succ, i64_w, i32_w]
                              rfl
                             refine pure_ (i := 1) (N := some 119) (v := ?_) (a' := ?_) #[true, true, false, false, false, false, false, false, false, false, false, false, false, false, false, false, false, false, false, false, false, false, false, false, false] rfl rfl (any_of HT_.out (by kernel_rfl)) (fun _ _ _ h => h) (Or.inl ⟨by rfl, ?_⟩) ?_ ?_
                             rotate_left
                             ·intro w'
                              go_simp
                              with_reducible rfl
                             rotate_left
                             ·simp only [Act.put, List.setIfInBounds_toArray, List.set_cons_zero, List.set_cons_succ, i64_w, i32_w]
                              rfl
                             refine pure_ (i := 2) (N := some 120) (v := ?_) (a' := ?_) #[true, true, true, false, false, false, false, false, false, false, false, false, false, false, false, false, false, false, false, false, false, false, false, false, false] rfl rfl (any_of HT_.out (by kernel_rfl)) (fun _ _ _ h => h) (Or.inl ⟨by rfl, ?_⟩) ?_ ?_
                             rotate_left
                             ·intro w'
                              go_simp
                              with_reducible rfl
                             rotate_left
                             ·simp only [Act.put, List.setIfInBounds_toArray, List.set_cons_zero, List.set_cons_succ, i64_w, i32_w]
                              rfl
                             refine take_ (i := 3) (N := some 121) (v := ?_) (a' := ?_) #[true, true, true, true, false, false, false, false, false, false, false, false, false, false, false, false, false, false, false, false, false, false, false, false, false] rfl rfl (take_ofW HT_.out HW_.out (by kernel_rfl)) (fun _ _ _ h => h) (Or.inl ⟨by rfl, ?_⟩) hHeld ?_ ?_
                             rotate_left
                             ·rintro w' ⟨s0, s1, s2⟩
                              go_simp
                              with_reducible rfl
                             rotate_left
                             ·simp only [Act.put, List.setIfInBounds_toArray, List.set_cons_zero, List.set_cons_succ, i64_w, i32_w]
                              rfl
                             refine one_ (i := 4) (N := some 122) #[true, true, true, true, true, false, false, false, false, false, false, false, false, false, false, false, false, false, false, false, false, false, false, false, false] rfl rfl (one_of HT_.out (by kernel_rfl)) (by decide) (fun K hK => ?_)
                             refine goes_ Tryz.func24 (by kernel_rfl) rfl #[.float .f64 (rdOf (0 : Nat) t143 x18_6)] (by rfl) rfl rfl eqA ?_
                             with_reducible refine (cuspref01_Finite.calls (rdOf (0 : Nat) t143 x18_6) true _ A63.out).mono ?_
                             rintro e w' ⟨rfl, ⟨nd, rfl⟩⟩
                             refine ⟨_, rfl, ?_⟩
                             refine hK.out _ _ ⟨hHeld.1, hHeld.2.1, hHeld.2.2⟩ (fun hHeld => ?_)
                             clear hK K
                             refine norm_ (a' := ?_) ?_ ?_
                             rotate_left
                             ·show Act.put _ (some 122) _ = _
                              simp only [Act.put, List.setIfInBounds_toArray, List.set_cons_zero, List.set_cons_succ, i64_w, i32_w]
                              rfl
                             refine pure_ (i := 5) (N := some 123) (v := ?_) (a' := ?_) #[true, true, true, true, true, true, false, false, false, false, false, false, false, false, false, false, false, false, false, false, false, false, false, false, false] rfl rfl (any_of HT_.out (by kernel_rfl)) (fun _ _ _ h => h) (Or.inl ⟨by rfl, ?_⟩) ?_ ?_
                             rotate_left
                             ·intro w'
                              go_simp
                              with_reducible rfl
                             rotate_left
                             ·simp only [Act.put, List.setIfInBounds_toArray, List.set_cons_zero, List.set_cons_succ, i64_w, i32_w]
                              rfl
                             refine pure_ (i := 6) (N := some 124) (v := ?_) (a' := ?_) #[true, true, true, true, true, true, true, false, false, false, false, false, false, false, false, false, false, false, false, false, false, false, false, false, false] rfl rfl (any_of HT_.out (by kernel_rfl)) (fun _ _ _ h => h) (Or.inl ⟨by rfl, ?_⟩) ?_ ?_
                             rotate_left
                             ·intro w'
                              go_simp
                              with_reducible rfl
                             rotate_left
                             ·simp only [Act.put, List.setIfInBounds_toArray, List.set_cons_zero, List.set_cons_succ, i64_w, i32_w]
                              rfl
                             refine pure_ (i := 7) (N := some 125) (v := ?_) (a' := ?_) #[true, true, true, true, true, true, true, true, false, false, false, false, false, false, false, false, false, false, false, false, false, false, false, false, false] rfl rfl (any_of HT_.out (by kernel_rfl)) (fun _ _ _ h => h) (Or.inl ⟨by rfl, ?_⟩) ?_ ?_
                             rotate_left
                             ·intro w'
                              go_simp
                              with_reducible rfl
                             rotate_left
                             ·simp only [Act.put, List.setIfInBounds_toArray, List.set_cons_zero, List.set_cons_succ, i64_w, i32_w]
                              rfl
                             refine pure_ (i := 8) (N := some 126) (v := ?_) (a' := ?_) #[true, true, true, true, true, true, true, true, true, false, false, false, false, false, false, false, false, false, false, false, false, false, false, false, false] rfl rfl (any_of HT_.out (by kernel_rfl)) (fun _ _ _ h => h) (Or.inl ⟨by rfl, ?_⟩) ?_ ?_
                             rotate_left
                             ·intro w'
                              go_simp
                              with_reducible rfl
                             rotate_left
                             ·simp only [Act.put, List.setIfInBounds_toArray, List.set_cons_zero, List.set_cons_succ, i64_w, i32_w]
                              rfl
                             refine pure_ (i := 9) (N := some 127) (v := ?_) (a' := ?_) #[true, true, true, true, true, true, true, true, true, true, false, false, false, false, false, false, false, false, false, false, false, false, false, false, false] rfl rfl (any_of HT_.out (by kernel_rfl)) (fun _ _ _ h => h) (Or.inl ⟨by rfl, ?_⟩) ?_ ?_
                             rotate_left
                             ·intro w'
                              go_simp
                              with_reducible rfl
                             rotate_left
                             ·simp only [Act.put, List.setIfInBounds_toArray, List.set_cons_zero, List.set_cons_succ, i64_w, i32_w]
                              rfl
                             refine pure_ (i := 10) (N := some 128) (v := ?_) (a' := ?_) #[true, true, true, true, true, true, true, true, true, true, true, false, false, false, false, false, false, false, false, false, false, false, false, false, false] rfl rfl (any_of HT_.out (by kernel_rfl)) (fun _ _ _ h => h) (Or.inl ⟨by rfl, ?_⟩) ?_ ?_
                             rotate_left
                             ·intro w'
                              go_simp
                              with_reducible rfl
                             rotate_left
                             ·simp only [Act.put, List.setIfInBounds_toArray, List.set_cons_zero, List.set_cons_succ, i64_w, i32_w]
                              rfl
                             refine pure_ (i := 11) (N := some 129) (v := ?_) (a' := ?_) #[true, true, true, true, true, true, true, true, true, true, true, true, false, false, false, false, false, false, false, false, false, false, false, false, false] rfl rfl (any_of HT_.out (by kernel_rfl)) (fun _ _ _ h => h) (Or.inl ⟨by rfl, ?_⟩) ?_ ?_
                             rotate_left
                             ·intro w'
                              go_simp
                              with_reducible rfl
                             rotate_left
                             ·simp only [Act.put, List.setIfInBounds_toArray, List.set_cons_zero, List.set_cons_succ, i64_w, i32_w]
                              rfl
                             refine pure_ (i := 12) (N := some 130) (v := ?_) (a' := ?_) #[true, true, true, true, true, true, true, true, true, true, true, true, true, false, false, false, false, false, false, false, false, false, false, false, false] rfl rfl (any_of HT_.out (by kernel_rfl)) (fun _ _ _ h => h) (Or.inl ⟨by rfl, ?_⟩) ?_ ?_
                             rotate_left
                             ·intro w'
                              go_simp
                              with_reducible rfl
                             rotate_left
                             ·simp only [Act.put, List.setIfInBounds_toArray, List.set_cons_zero, List.set_cons_succ, i64_w, i32_w]
                              rfl
                             refine pure_ (i := 15) (N := some 133) (v := ?_) (a' := ?_) #[true, true, true, true, true, true, true, true, true, true, true, true, true, false, false, true, false, false, false, false, false, false, false, false, false] rfl rfl (any_of HT_.out (by kernel_rfl)) (fun _ _ _ h => h) (Or.inl ⟨by rfl, ?_⟩) ?_ ?_
                             rotate_left
                             ·intro w'
                              go_simp
                              with_reducible rfl
                             rotate_left
                             ·simp only [Act.put, List.setIfInBounds_toArray, List.set_cons_zero, List.set_cons_succ, i64_w, i32_w]
                              rfl
                             refine pure_ (i := 16) (N := some 134) (v := ?_) (a' := ?_) #[true, true, true, true, true, true, true, true, true, true, true, true, true, false, false, true, true, false, false, false, false, false, false, false, false] rfl rfl (any_of HT_.out (by kernel_rfl)) (fun _ _ _ h => h) (Or.inl ⟨by rfl, ?_⟩) ?_ ?_
                             rotate_left
                             ·intro w'
                              go_simp
                              with_reducible rfl
                             rotate_left
                             ·simp only [Act.put, List.setIfInBounds_toArray, List.set_cons_zero, List.set_cons_succ, i64_w, i32_w]
                              rfl
                             refine pure_ (i := 17) (N := some 135) (v := ?_) (a' := ?_) #[true, true, true, true, true, true, true, true, true, true, true, true, true, false, false, true, true, true, false, false, false, false, false, false, false] rfl rfl (any_of HT_.out (by kernel_rfl)) (fun _ _ _ h => h) (Or.inl ⟨by rfl, ?_⟩) ?_ ?_
                             rotate_left
                             ·intro w'
                              go_simp
                              with_reducible rfl
                             rotate_left
                             ·simp only [Act.put, List.setIfInBounds_toArray, List.set_cons_zero, List.set_cons_succ, i64_w, i32_w]
                              rfl
                             refine pure_ (i := 18) (N := some 136) (v := ?_) (a' := ?_) #[true, true, true, true, true, true, true, true, true, true, true, true, true, false, false, true, true, true, true, false, false, false, false, false, false] rfl rfl (any_of HT_.out (by kernel_rfl)) (fun _ _ _ h => h) (Or.inl ⟨by rfl, ?_⟩) ?_ ?_
                             rotate_left
                             ·intro w'
                              go_simp
                              with_reducible rfl
                             rotate_left
                             ·simp only [Act.put, List.setIfInBounds_toArray, List.set_cons_zero, List.set_cons_succ, i64_w, i32_w]
                              rfl
                             refine take_ (i := 13) (N := some 131) (v := ?_) (a' := ?_) #[true, true, true, true, true, true, true, true, true, true, true, true, true, true, false, true, true, true, true, false, false, false, false, false, false] rfl rfl (take_ofW HT_.out HW_.out (by kernel_rfl)) (fun _ _ _ h => h) (Or.inl ⟨by rfl, ?_⟩) hHeld ?_ ?_
                             rotate_left
                             ·rintro w' ⟨s0, s1, s2⟩
                              go_simp
                              with_reducible rfl
                             rotate_left
                             ·simp only [Act.put, List.setIfInBounds_toArray, List.set_cons_zero, List.set_cons_succ, i64_w, i32_w]
                              rfl
                             refine take_ (i := 19) (N := some 137) (v := ?_) (a' := ?_) #[true, true, true, true, true, true, true, true, true, true, true, true, true, true, false, true, true, true, true, true, false, false, false, false, false] rfl rfl (take_ofW HT_.out HW_.out (by kernel_rfl)) (fun _ _ _ h => h) (Or.inl ⟨by rfl, ?_⟩) hHeld ?_ ?_
                             rotate_left
                             ·rintro w' ⟨s0, s1, s2⟩
                              go_simp
                              with_reducible rfl
                             rotate_left
                             ·simp only [Act.put, List.setIfInBounds_toArray, List.set_cons_zero, List.set_cons_succ, i64_w, i32_w]
                              rfl
                             refine one_ (i := 14) (N := some 132) #[true, true, true, true, true, true, true, true, true, true, true, true, true, true, true, true, true, true, true, true, false, false, false, false, false] rfl rfl (one_of HT_.out (by kernel_rfl)) (by decide) (fun K hK => ?_)
                             refine goes_ Tryz.func29 (by kernel_rfl) rfl #[.float .f64 (rdOf (0 : Nat) t143 x18_6)] (by rfl) rfl rfl eqA ?_
                             with_reducible refine (cuspref01_Abs.calls (rdOf (0 : Nat) t143 x18_6) t165 _ A66.out).mono ?_
                             rintro e w' ⟨rfl, ⟨nd, rfl⟩⟩
                             refine ⟨_, rfl, ?_⟩
                             refine hK.out _ _ ⟨hHeld.1, hHeld.2.1, hHeld.2.2⟩ (fun hHeld => ?_)
                             clear hK K
                             refine norm_ (a' := ?_) ?_ ?_
                             rotate_left
                             ·show Act.put _ (some 132) _ = _
                              simp only [Act.put, List.setIfInBounds_toArray, List.set_cons_zero, List.set_cons_succ, i64_w, i32_w]
                              rfl
                             refine one_ (i := 20) (N := some 138) #[true, true, true, true, true, true, true, true, true, true, true, true, true, true, true, true, true, true, true, true, true, false, false, false, false] rfl rfl (one_of HT_.out (by kernel_rfl)) (by decide) (fun K hK => ?_)
                             refine goes_ Tryz.func30 (by kernel_rfl) rfl #[.float .f64 (rdOf (0 : Nat) t143 (ji67))] (by rfl) rfl rfl (by (try simp only [List.map_toArray, List.map_cons, List.map_nil]); first | done | (simp only [hji67]; rfl) | rfl | (simp only [List.length_drop, List.length_take]; rfl)) ?_
                             with_reducible refine (cuspref01_Unit.calls (rdOf (0 : Nat) t143 (ji67)) t167 _ A70.out).mono ?_
                             rintro e w' ⟨rfl, ⟨nd, rfl⟩⟩
                             refine ⟨_, rfl, ?_⟩
                             refine hK.out _ _ ⟨hHeld.1, hHeld.2.1, hHeld.2.2⟩ (fun hHeld => ?_)
                             clear hK K
                             refine norm_ (a' := ?_) ?_ ?_
                             rotate_left
                             ·show Act.put _ (some 138) _ = _
                              simp only [Act.put, List.setIfInBounds_toArray, List.set_cons_zero, List.set_cons_succ, i64_w, i32_w]
                              rfl
                             refine pure_ (i := 21) (N := some 139) (v := ?_) (a' := ?_) #[true, true, true, true, true, true, true, true, true, true, true, true, true, true, true, true, true, true, true, true, true, true, false, false, false] rfl rfl (any_of HT_.out (by kernel_rfl)) (fun _ _ _ h => h) (Or.inl ⟨by rfl, ?_⟩) ?_ ?_
                             rotate_left
                             ·intro w'
                              go_simp
                              with_reducible rfl
                             rotate_left
                             ·simp only [Act.put, List.setIfInBounds_toArray, List.set_cons_zero, List.set_cons_succ, i64_w, i32_w]
                              rfl
                             refine pure_ (i := 22) (N := some 140) (v := ?_) (a' := ?_) #[true, true, true, true, true, true, true, true, true, true, true, true, true, true, true, true, true, true, true, true, true, true, true, false, false] rfl rfl (any_of HT_.out (by kernel_rfl)) (fun _ _ _ h => h) (Or.inl ⟨by rfl, ?_⟩) ?_ ?_
                             rotate_left
                             ·intro w'
                              go_simp
                              with_reducible rfl
                             rotate_left
                             ·simp only [Act.put, List.setIfInBounds_toArray, List.set_cons_zero, List.set_cons_succ, i64_w, i32_w]
                              rfl
                             refine pure_ (i := 23) (N := some 141) (v := ?_) (a' := ?_) #[true, true, true, true, true, true, true, true, true, true, true, true, true, true, true, true, true, true, true, true, true, true, true, true, false] rfl rfl (any_of HT_.out (by kernel_rfl)) (fun _ _ _ h => h) (Or.inl ⟨by rfl, ?_⟩) ?_ ?_
                             rotate_left
                             ·intro w'
                              go_simp
                              with_reducible rfl
                             rotate_left
                             ·simp only [Act.put, List.setIfInBounds_toArray, List.set_cons_zero, List.set_cons_succ, i64_w, i32_w]
                              rfl
                             refine pure_ (i := 24) (N := some 142) (v := ?_) (a' := ?_) #[true, true, true, true, true, true, true, true, true, true, true, true, true, true, true, true, true, true, true, true, true, true, true, true, true] rfl rfl (any_of HT_.out (by kernel_rfl)) (fun _ _ _ h => h) (Or.inl ⟨by rfl, ?_⟩) ?_ ?_
                             rotate_left
                             ·intro w'
                              go_simp
                              with_reducible rfl
                             rotate_left
                             ·simp only [Act.put, List.setIfInBounds_toArray, List.set_cons_zero, List.set_cons_succ, i64_w, i32_w]
                              rfl
                             refine done_ (done_of HT_.out (by kernel_rfl)) ?_
                             try go_wp2
                             go_meet
                             case rel => exact ⟨_, (((FloatKind.f64.format.order t165 ((floatBits .quo .f64 t167 (4611686018427387904 : Nat)).getD 0)) == some .gt)), eqB, H', ⟨by have := HJ4.out; have := HK2.out; have := HJ30.out; have := HJ37.out; have := HK5.out; have := HK6.out; first | omega | exact Nat.le_refl _⟩, ⟨by (with_reducible repeat (first | apply Kd.R_alloc | apply Kd.R_drewN | apply Kd.R_drew)); exact HO_14.out⟩, ⟨by (with_reducible repeat (first | apply Kd.R_alloc | apply Kd.R_drewN | apply Kd.R_drew)); exact HO_149001.out⟩, ⟨by (with_reducible repeat (first | refine blk_drewN ?_ _ | refine blk_drew ?_ | refine blk_alloc ?_ _)); exact BK148.out⟩, ⟨hbs⟩⟩
                            ·rw [if_neg c71] at H
                             exact absurd H (by simp)
                           ·rw [if_neg c69] at H
                            exact absurd H (by simp)
                          ·rw [if_neg c68] at H
                           exact absurd H (by simp)
                         ·rw [if_neg c65] at H
                          have c65b0 := decide_eq_false c65
                          clear c65
                          have H' := asd H
                          clear H
                          try go_wp2
                          have n0_ := asd (Kd.R_drew HO_14.out)
                          have n1_ := asd (Kd.R_drew HO_149001.out)
                          have n2_ := asd (blk_drew BK148.out)
                          have n3_ := asd (below_drew1 HB.out)
                          clear HO_14
                          clear HO_149001
                          clear BK148
                          clear HB
                          have HO_14 := n0_
                          have HO_149001 := n1_
                          have BK148 := n2_
                          have HB := n3_
                          clear n0_ n1_ n2_ n3_
                          have p162 : 0 ≤ (x18_6 : Int) := odt
                          have q162 : x18_6 < (t143.length : Int) := odt
                          obtain ⟨ad162, e162, hx162_0⟩ := Kd.at_float (Kd.R_reads' HO_14.out).2.2 x18_6 p162 q162
                          cases e162
                          replace p162 := eq_true p162
                          replace q162 := eq_true q162
                          refine start_ (n := 25) (S := fun w' => w'.cell? (ad162.add (x18_6).toNat) = some (.float .f64 (rdOf (0 : Nat) t143 x18_6))) (ds := []) #[false, false, false, false, false, false, false, false, false, false, false, false, false, false, false, false, false, false, false, false, false, false, false, false, false] (by kernel_rfl) rfl rfl (hx162_0) (fun hHeld => ?_); refine with_tabW cusplaw05_SumsAny.tab26 cusplaw05_SumsAny.bits26 (fun HT_ HW_ => ?_)
                          generalize wr.drew = w73 at HO_14 HO_149001 BK148 HB hx162_0 hHeld ⊢
                          refine pure_ (i := 0) (N := some 118) (v := ?_) (a' := ?_) #[true, false, false, false, false, false, false, false, false, false, false, false, false, false, false, false, false, false, false, false, false, false, false, false, false] rfl rfl (any_of HT_.out (by kernel_rfl)) (fun _ _ _ h => h) (Or.inl ⟨by rfl, ?_⟩) ?_ ?_
                          rotate_left
                          ·intro w'
                           go_simp
                           with_reducible rfl
                          rotate_left
                          ·simp only [Act.put, List.setIfInBounds_toArray, List.set_cons_zero, List.set_cons_succ, i64_w, i32_w]
                           rfl
                          refine pure_ (i := 1) (N := some 119) (v := ?_) (a' := ?_) #[true, true, false, false, false, false, false, false, false, false, false, false, false, false, false, false, false, false, false, false, false, false, false, false, false] rfl rfl (any_of HT_.out (by kernel_rfl)) (fun _ _ _ h => h) (Or.inl ⟨by rfl, ?_⟩) ?_ ?_
                          rotate_left
                          ·intro w'
                           go_simp
                           with_reducible rfl
                          rotate_left
                          ·simp only [Act.put, List.setIfInBounds_toArray, List.set_cons_zero, List.set_cons_succ, i64_w, i32_w]
                           rfl
                          refine pure_ (i := 2) (N := some 120) (v := ?_) (a' := ?_) #[true, true, true, false, false, false, false, false, false, false, false, false, false, false, false, false, false, false, false, false, false, false, false, false, false] rfl rfl (any_of HT_.out (by kernel_rfl)) (fun _ _ _ h => h) (Or.inl ⟨by rfl, ?_⟩) ?_ ?_
                          rotate_left
                          ·intro w'
                           go_simp
                           with_reducible rfl
                          rotate_left
                          ·simp only [Act.put, List.setIfInBounds_toArray, List.set_cons_zero, List.set_cons_succ, i64_w, i32_w]
                           rfl
                          refine take_ (i := 3) (N := some 121) (v := ?_) (a' := ?_) #[true, true, true, true, false, false, false, false, false, false, false, false, false, false, false, false, false, false, false, false, false, false, false, false, false] rfl rfl (take_ofW HT_.out HW_.out (by kernel_rfl)) (fun _ _ _ h => h) (Or.inl ⟨by rfl, ?_⟩) hHeld ?_ ?_
                          rotate_left
                          ·intro w' s0
                           go_simp
                           with_reducible rfl
                          rotate_left
                          ·simp only [Act.put, List.setIfInBounds_toArray, List.set_cons_zero, List.set_cons_succ, i64_w, i32_w]
                           rfl
                          refine one_ (i := 4) (N := some 122) #[true, true, true, true, true, false, false, false, false, false, false, false, false, false, false, false, false, false, false, false, false, false, false, false, false] rfl rfl (one_of HT_.out (by kernel_rfl)) (by decide) (fun K hK => ?_)
                          refine goes_ Tryz.func24 (by kernel_rfl) rfl #[.float .f64 (rdOf (0 : Nat) t143 x18_6)] (by rfl) rfl rfl eqA ?_
                          with_reducible refine (cuspref01_Finite.calls (rdOf (0 : Nat) t143 x18_6) true _ A63.out).mono ?_
                          rintro e w' ⟨rfl, ⟨nd, rfl⟩⟩
                          refine ⟨_, rfl, ?_⟩
                          refine hK.out _ _ (hHeld) (fun hHeld => ?_)
                          clear hK K
                          refine norm_ (a' := ?_) ?_ ?_
                          rotate_left
                          ·show Act.put _ (some 122) _ = _
                           simp only [Act.put, List.setIfInBounds_toArray, List.set_cons_zero, List.set_cons_succ, i64_w, i32_w]
                           rfl
                          refine pure_ (i := 5) (N := some 123) (v := ?_) (a' := ?_) #[true, true, true, true, true, true, false, false, false, false, false, false, false, false, false, false, false, false, false, false, false, false, false, false, false] rfl rfl (any_of HT_.out (by kernel_rfl)) (fun _ _ _ h => h) (Or.inl ⟨by rfl, ?_⟩) ?_ ?_
                          rotate_left
                          ·intro w'
                           go_simp
                           with_reducible rfl
                          rotate_left
                          ·simp only [Act.put, List.setIfInBounds_toArray, List.set_cons_zero, List.set_cons_succ, i64_w, i32_w]
                           rfl
                          refine pure_ (i := 6) (N := some 124) (v := ?_) (a' := ?_) #[true, true, true, true, true, true, true, false, false, false, false, false, false, false, false, false, false, false, false, false, false, false, false, false, false] rfl rfl (any_of HT_.out (by kernel_rfl)) (fun _ _ _ h => h) (Or.inl ⟨by rfl, ?_⟩) ?_ ?_
                          rotate_left
                          ·intro w'
                           go_simp
                           with_reducible rfl
                          rotate_left
                          ·simp only [Act.put, List.setIfInBounds_toArray, List.set_cons_zero, List.set_cons_succ, i64_w, i32_w]
                           rfl
                          refine pure_ (i := 7) (N := some 125) (v := ?_) (a' := ?_) #[true, true, true, true, true, true, true, true, false, false, false, false, false, false, false, false, false, false, false, false, false, false, false, false, false] rfl rfl (any_of HT_.out (by kernel_rfl)) (fun _ _ _ h => h) (Or.inl ⟨by rfl, ?_⟩) ?_ ?_
                          rotate_left
                          ·intro w'
                           go_simp
                           with_reducible rfl
                          rotate_left
                          ·simp only [Act.put, List.setIfInBounds_toArray, List.set_cons_zero, List.set_cons_succ, i64_w, i32_w]
                           rfl
                          refine pure_ (i := 8) (N := some 126) (v := ?_) (a' := ?_) #[true, true, true, true, true, true, true, true, true, false, false, false, false, false, false, false, false, false, false, false, false, false, false, false, false] rfl rfl (any_of HT_.out (by kernel_rfl)) (fun _ _ _ h => h) (Or.inl ⟨by rfl, ?_⟩) ?_ ?_
                          rotate_left
                          ·intro w'
                           go_simp
                           with_reducible rfl
                          rotate_left
                          ·simp only [Act.put, List.setIfInBounds_toArray, List.set_cons_zero, List.set_cons_succ, i64_w, i32_w]
                           rfl
                          refine pure_ (i := 9) (N := some 127) (v := ?_) (a' := ?_) #[true, true, true, true, true, true, true, true, true, true, false, false, false, false, false, false, false, false, false, false, false, false, false, false, false] rfl rfl (any_of HT_.out (by kernel_rfl)) (fun _ _ _ h => h) (Or.inl ⟨by rfl, ?_⟩) ?_ ?_
                          rotate_left
                          ·intro w'
                           go_simp
                           with_reducible rfl
                          rotate_left
                          ·simp only [Act.put, List.setIfInBounds_toArray, List.set_cons_zero, List.set_cons_succ, i64_w, i32_w]
                           rfl
                          refine pure_ (i := 10) (N := some 128) (v := undef) (a' := ?_) #[true, true, true, true, true, true, true, true, true, true, true, false, false, false, false, false, false, false, false, false, false, false, false, false, false] rfl rfl (any_of HT_.out (by kernel_rfl)) (fun _ _ _ h => h) (Or.inr ⟨by rfl, rfl⟩) ?_ ?_
                          rotate_left
                          ·simp only [Act.put, List.setIfInBounds_toArray, List.set_cons_zero, List.set_cons_succ, i64_w, i32_w]
                           rfl
                          refine pure_ (i := 11) (N := some 129) (v := undef) (a' := ?_) #[true, true, true, true, true, true, true, true, true, true, true, true, false, false, false, false, false, false, false, false, false, false, false, false, false] rfl rfl (any_of HT_.out (by kernel_rfl)) (fun _ _ _ h => h) (Or.inr ⟨by rfl, rfl⟩) ?_ ?_
                          rotate_left
                          ·simp only [Act.put, List.setIfInBounds_toArray, List.set_cons_zero, List.set_cons_succ, i64_w, i32_w]
                           rfl
                          refine pure_ (i := 12) (N := some 130) (v := undef) (a' := ?_) #[true, true, true, true, true, true, true, true, true, true, true, true, true, false, false, false, false, false, false, false, false, false, false, false, false] rfl rfl (any_of HT_.out (by kernel_rfl)) (fun _ _ _ h => h) (Or.inr ⟨by rfl, rfl⟩) ?_ ?_
                          rotate_left
                          ·simp only [Act.put, List.setIfInBounds_toArray, List.set_cons_zero, List.set_cons_succ, i64_w, i32_w]
                           rfl
                          refine pure_ (i := 13) (N := some 131) (v := undef) (a' := ?_) #[true, true, true, true, true, true, true, true, true, true, true, true, true, true, false, false, false, false, false, false, false, false, false, false, false] rfl rfl (any_of HT_.out (by kernel_rfl)) (fun _ _ _ h => h) (Or.inr ⟨by rfl, rfl⟩) ?_ ?_
                          rotate_left
                          ·simp only [Act.put, List.setIfInBounds_toArray, List.set_cons_zero, List.set_cons_succ, i64_w, i32_w]
                           rfl
                          refine pure_ (i := 14) (N := some 132) (v := undef) (a' := ?_) #[true, true, true, true, true, true, true, true, true, true, true, true, true, true, true, false, false, false, false, false, false, false, false, false, false] rfl rfl (any_of HT_.out (by kernel_rfl)) (fun _ _ _ h => h) (Or.inr ⟨by rfl, rfl⟩) ?_ ?_
                          rotate_left
                          ·simp only [Act.put, List.setIfInBounds_toArray, List.set_cons_zero, List.set_cons_succ, i64_w, i32_w]
                           rfl
                          refine pure_ (i := 15) (N := some 133) (v := undef) (a' := ?_) #[true, true, true, true, true, true, true, true, true, true, true, true, true, true, true, true, false, false, false, false, false, false, false, false, false] rfl rfl (any_of HT_.out (by kernel_rfl)) (fun _ _ _ h => h) (Or.inr ⟨by rfl, rfl⟩) ?_ ?_
                          rotate_left
                          ·simp only [Act.put, List.setIfInBounds_toArray, List.set_cons_zero, List.set_cons_succ, i64_w, i32_w]
                           rfl
                          refine pure_ (i := 16) (N := some 134) (v := undef) (a' := ?_) #[true, true, true, true, true, true, true, true, true, true, true, true, true, true, true, true, true, false, false, false, false, false, false, false, false] rfl rfl (any_of HT_.out (by kernel_rfl)) (fun _ _ _ h => h) (Or.inr ⟨by rfl, rfl⟩) ?_ ?_
                          rotate_left
                          ·simp only [Act.put, List.setIfInBounds_toArray, List.set_cons_zero, List.set_cons_succ, i64_w, i32_w]
                           rfl
                          refine pure_ (i := 17) (N := some 135) (v := undef) (a' := ?_) #[true, true, true, true, true, true, true, true, true, true, true, true, true, true, true, true, true, true, false, false, false, false, false, false, false] rfl rfl (any_of HT_.out (by kernel_rfl)) (fun _ _ _ h => h) (Or.inr ⟨by rfl, rfl⟩) ?_ ?_
                          rotate_left
                          ·simp only [Act.put, List.setIfInBounds_toArray, List.set_cons_zero, List.set_cons_succ, i64_w, i32_w]
                           rfl
                          refine pure_ (i := 18) (N := some 136) (v := undef) (a' := ?_) #[true, true, true, true, true, true, true, true, true, true, true, true, true, true, true, true, true, true, true, false, false, false, false, false, false] rfl rfl (any_of HT_.out (by kernel_rfl)) (fun _ _ _ h => h) (Or.inr ⟨by rfl, rfl⟩) ?_ ?_
                          rotate_left
                          ·simp only [Act.put, List.setIfInBounds_toArray, List.set_cons_zero, List.set_cons_succ, i64_w, i32_w]
                           rfl
                          refine pure_ (i := 19) (N := some 137) (v := undef) (a' := ?_) #[true, true, true, true, true, true, true, true, true, true, true, true, true, true, true, true, true, true, true, true, false, false, false, false, false] rfl rfl (any_of HT_.out (by kernel_rfl)) (fun _ _ _ h => h) (Or.inr ⟨by rfl, rfl⟩) ?_ ?_
                          rotate_left
                          ·simp only [Act.put, List.setIfInBounds_toArray, List.set_cons_zero, List.set_cons_succ, i64_w, i32_w]
                           rfl
                          refine pure_ (i := 20) (N := some 138) (v := undef) (a' := ?_) #[true, true, true, true, true, true, true, true, true, true, true, true, true, true, true, true, true, true, true, true, true, false, false, false, false] rfl rfl (any_of HT_.out (by kernel_rfl)) (fun _ _ _ h => h) (Or.inr ⟨by rfl, rfl⟩) ?_ ?_
                          rotate_left
                          ·simp only [Act.put, List.setIfInBounds_toArray, List.set_cons_zero, List.set_cons_succ, i64_w, i32_w]
                           rfl
                          refine pure_ (i := 21) (N := some 139) (v := undef) (a' := ?_) #[true, true, true, true, true, true, true, true, true, true, true, true, true, true, true, true, true, true, true, true, true, true, false, false, false] rfl rfl (any_of HT_.out (by kernel_rfl)) (fun _ _ _ h => h) (Or.inr ⟨by rfl, rfl⟩) ?_ ?_
                          rotate_left
                          ·simp only [Act.put, List.setIfInBounds_toArray, List.set_cons_zero, List.set_cons_succ, i64_w, i32_w]
                           rfl
                          refine pure_ (i := 22) (N := some 140) (v := undef) (a' := ?_) #[true, true, true, true, true, true, true, true, true, true, true, true, true, true, true, true, true, true, true, true, true, true, true, false, false] rfl rfl (any_of HT_.out (by kernel_rfl)) (fun _ _ _ h => h) (Or.inr ⟨by rfl, rfl⟩) ?_ ?_
                          rotate_left
                          ·simp only [Act.put, List.setIfInBounds_toArray, List.set_cons_zero, List.set_cons_succ, i64_w, i32_w]
                           rfl
                          refine pure_ (i := 23) (N := some 141) (v := ?_) (a' := ?_) #[true, true, true, true, true, true, true, true, true, true, true, true, true, true, true, true, true, true, true, true, true, true, true, true, false] rfl rfl (any_of HT_.out (by kernel_rfl)) (fun _ _ _ h => h) (Or.inl ⟨by rfl, ?_⟩) ?_ ?_
                          rotate_left
                          ·intro w'
                           go_simp
                           with_reducible rfl
                          rotate_left
                          ·simp only [Act.put, List.setIfInBounds_toArray, List.set_cons_zero, List.set_cons_succ, i64_w, i32_w]
                           rfl
                          refine pure_ (i := 24) (N := some 142) (v := ?_) (a' := ?_) #[true, true, true, true, true, true, true, true, true, true, true, true, true, true, true, true, true, true, true, true, true, true, true, true, true] rfl rfl (any_of HT_.out (by kernel_rfl)) (fun _ _ _ h => h) (Or.inl ⟨by rfl, ?_⟩) ?_ ?_
                          rotate_left
                          ·intro w'
                           go_simp
                           with_reducible rfl
                          rotate_left
                          ·simp only [Act.put, List.setIfInBounds_toArray, List.set_cons_zero, List.set_cons_succ, i64_w, i32_w]
                           rfl
                          refine done_ (done_of HT_.out (by kernel_rfl)) ?_
                          try go_wp2
                          go_meet
                          case rel => exact ⟨_, (false), eqB, H', ⟨by have := HJ4.out; have := HK2.out; have := HJ30.out; have := HJ37.out; have := HK5.out; have := HK6.out; first | omega | exact Nat.le_refl _⟩, ⟨by (with_reducible repeat (first | apply Kd.R_alloc | apply Kd.R_drewN | apply Kd.R_drew)); exact HO_14.out⟩, ⟨by (with_reducible repeat (first | apply Kd.R_alloc | apply Kd.R_drewN | apply Kd.R_drew)); exact HO_149001.out⟩, ⟨by (with_reducible repeat (first | refine blk_drewN ?_ _ | refine blk_drew ?_ | refine blk_alloc ?_ _)); exact BK148.out⟩, ⟨hbs⟩⟩
                        ·replace c64 := Bool.eq_false_iff.mpr c64
                         subst c64
                         rw [if_neg (show ¬ (false = true) by decide)] at H
                         have H' := asd H
                         clear H
                         try go_wp2
                         have n0_ := asd (Kd.R_drew HO_14.out)
                         have n1_ := asd (Kd.R_drew HO_149001.out)
                         have n2_ := asd (blk_drew BK148.out)
                         have n3_ := asd (below_drew1 HB.out)
                         clear HO_14
                         clear HO_149001
                         clear BK148
                         clear HB
                         have HO_14 := n0_
                         have HO_149001 := n1_
                         have BK148 := n2_
                         have HB := n3_
                         clear n0_ n1_ n2_ n3_
                         have p162 : 0 ≤ (x18_6 : Int) := odt
                         have q162 : x18_6 < (t143.length : Int) := odt
                         obtain ⟨ad162, e162, hx162_0⟩ := Kd.at_float (Kd.R_reads' HO_14.out).2.2 x18_6 p162 q162
                         cases e162
                         replace p162 := eq_true p162
                         replace q162 := eq_true q162
                         refine start_ (n := 25) (S := fun w' => w'.cell? (ad162.add (x18_6).toNat) = some (.float .f64 (rdOf (0 : Nat) t143 x18_6))) (ds := []) #[false, false, false, false, false, false, false, false, false, false, false, false, false, false, false, false, false, false, false, false, false, false, false, false, false] (by kernel_rfl) rfl rfl (hx162_0) (fun hHeld => ?_); refine with_tabW cusplaw05_SumsAny.tab26 cusplaw05_SumsAny.bits26 (fun HT_ HW_ => ?_)
                         generalize wr.drew = w74 at HO_14 HO_149001 BK148 HB hx162_0 hHeld ⊢
                         refine pure_ (i := 0) (N := some 118) (v := ?_) (a' := ?_) #[true, false, false, false, false, false, false, false, false, false, false, false, false, false, false, false, false, false, false, false, false, false, false, false, false] rfl rfl (any_of HT_.out (by kernel_rfl)) (fun _ _ _ h => h) (Or.inl ⟨by rfl, ?_⟩) ?_ ?_
                         rotate_left
                         ·intro w'
                          go_simp
                          with_reducible rfl
                         rotate_left
                         ·simp only [Act.put, List.setIfInBounds_toArray, List.set_cons_zero, List.set_cons_succ, i64_w, i32_w]
                          rfl
                         refine pure_ (i := 1) (N := some 119) (v := ?_) (a' := ?_) #[true, true, false, false, false, false, false, false, false, false, false, false, false, false, false, false, false, false, false, false, false, false, false, false, false] rfl rfl (any_of HT_.out (by kernel_rfl)) (fun _ _ _ h => h) (Or.inl ⟨by rfl, ?_⟩) ?_ ?_
                         rotate_left
                         ·intro w'
                          go_simp
                          with_reducible rfl
                         rotate_left
                         ·simp only [Act.put, List.setIfInBounds_toArray, List.set_cons_zero, List.set_cons_succ, i64_w, i32_w]
                          rfl
                         refine pure_ (i := 2) (N := some 120) (v := ?_) (a' := ?_) #[true, true, true, false, false, false, false, false, false, false, false, false, false, false, false, false, false, false, false, false, false, false, false, false, false] rfl rfl (any_of HT_.out (by kernel_rfl)) (fun _ _ _ h => h) (Or.inl ⟨by rfl, ?_⟩) ?_ ?_
                         rotate_left
                         ·intro w'
                          go_simp
                          with_reducible rfl
                         rotate_left
                         ·simp only [Act.put, List.setIfInBounds_toArray, List.set_cons_zero, List.set_cons_succ, i64_w, i32_w]
                          rfl
                         refine take_ (i := 3) (N := some 121) (v := ?_) (a' := ?_) #[true, true, true, true, false, false, false, false, false, false, false, false, false, false, false, false, false, false, false, false, false, false, false, false, false] rfl rfl (take_ofW HT_.out HW_.out (by kernel_rfl)) (fun _ _ _ h => h) (Or.inl ⟨by rfl, ?_⟩) hHeld ?_ ?_
                         rotate_left
                         ·intro w' s0
                          go_simp
                          with_reducible rfl
                         rotate_left
                         ·simp only [Act.put, List.setIfInBounds_toArray, List.set_cons_zero, List.set_cons_succ, i64_w, i32_w]
                          rfl
                         refine one_ (i := 4) (N := some 122) #[true, true, true, true, true, false, false, false, false, false, false, false, false, false, false, false, false, false, false, false, false, false, false, false, false] rfl rfl (one_of HT_.out (by kernel_rfl)) (by decide) (fun K hK => ?_)
                         refine goes_ Tryz.func24 (by kernel_rfl) rfl #[.float .f64 (rdOf (0 : Nat) t143 x18_6)] (by rfl) rfl rfl eqA ?_
                         with_reducible refine (cuspref01_Finite.calls (rdOf (0 : Nat) t143 x18_6) false _ A63.out).mono ?_
                         rintro e w' ⟨rfl, ⟨nd, rfl⟩⟩
                         refine ⟨_, rfl, ?_⟩
                         refine hK.out _ _ (hHeld) (fun hHeld => ?_)
                         clear hK K
                         refine norm_ (a' := ?_) ?_ ?_
                         rotate_left
                         ·show Act.put _ (some 122) _ = _
                          simp only [Act.put, List.setIfInBounds_toArray, List.set_cons_zero, List.set_cons_succ, i64_w, i32_w]
                          rfl
                         refine pure_ (i := 5) (N := some 123) (v := ?_) (a' := ?_) #[true, true, true, true, true, true, false, false, false, false, false, false, false, false, false, false, false, false, false, false, false, false, false, false, false] rfl rfl (any_of HT_.out (by kernel_rfl)) (fun _ _ _ h => h) (Or.inl ⟨by rfl, ?_⟩) ?_ ?_
                         rotate_left
                         ·intro w'
                          go_simp
                          with_reducible rfl
                         rotate_left
                         ·simp only [Act.put, List.setIfInBounds_toArray, List.set_cons_zero, List.set_cons_succ, i64_w, i32_w]
                          rfl
                         refine pure_ (i := 6) (N := some 124) (v := ?_) (a' := ?_) #[true, true, true, true, true, true, true, false, false, false, false, false, false, false, false, false, false, false, false, false, false, false, false, false, false] rfl rfl (any_of HT_.out (by kernel_rfl)) (fun _ _ _ h => h) (Or.inl ⟨by rfl, ?_⟩) ?_ ?_
                         rotate_left
                         ·intro w'
                          go_simp
                          with_reducible rfl
                         rotate_left
                         ·simp only [Act.put, List.setIfInBounds_toArray, List.set_cons_zero, List.set_cons_succ, i64_w, i32_w]
                          rfl
                         refine pure_ (i := 7) (N := some 125) (v := undef) (a' := ?_) #[true, true, true, true, true, true, true, true, false, false, false, false, false, false, false, false, false, false, false, false, false, false, false, false, false] rfl rfl (any_of HT_.out (by kernel_rfl)) (fun _ _ _ h => h) (Or.inr ⟨by rfl, rfl⟩) ?_ ?_
                         rotate_left
                         ·simp only [Act.put, List.setIfInBounds_toArray, List.set_cons_zero, List.set_cons_succ, i64_w, i32_w]
                          rfl
                         refine pure_ (i := 8) (N := some 126) (v := undef) (a' := ?_) #[true, true, true, true, true, true, true, true, true, false, false, false, false, false, false, false, false, false, false, false, false, false, false, false, false] rfl rfl (any_of HT_.out (by kernel_rfl)) (fun _ _ _ h => h) (Or.inr ⟨by rfl, rfl⟩) ?_ ?_
                         rotate_left
                         ·simp only [Act.put, List.setIfInBounds_toArray, List.set_cons_zero, List.set_cons_succ, i64_w, i32_w]
                          rfl
                         refine pure_ (i := 9) (N := some 127) (v := undef) (a' := ?_) #[true, true, true, true, true, true, true, true, true, true, false, false, false, false, false, false, false, false, false, false, false, false, false, false, false] rfl rfl (any_of HT_.out (by kernel_rfl)) (fun _ _ _ h => h) (Or.inr ⟨by rfl, rfl⟩) ?_ ?_
                         rotate_left
                         ·simp only [Act.put, List.setIfInBounds_toArray, List.set_cons_zero, List.set_cons_succ, i64_w, i32_w]
                          rfl
                         refine pure_ (i := 10) (N := some 128) (v := undef) (a' := ?_) #[true, true, true, true, true, true, true, true, true, true, true, false, false, false, false, false, false, false, false, false, false, false, false, false, false] rfl rfl (any_of HT_.out (by kernel_rfl)) (fun _ _ _ h => h) (Or.inr ⟨by rfl, rfl⟩) ?_ ?_
                         rotate_left
                         ·simp only [Act.put, List.setIfInBounds_toArray, List.set_cons_zero, List.set_cons_succ, i64_w, i32_w]
                          rfl
                         refine pure_ (i := 11) (N := some 129) (v := undef) (a' := ?_) #[true, true, true, true, true, true, true, true, true, true, true, true, false, false, false, false, false, false, false, false, false, false, false, false, false] rfl rfl (any_of HT_.out (by kernel_rfl)) (fun _ _ _ h => h) (Or.inr ⟨by rfl, rfl⟩) ?_ ?_
                         rotate_left
                         ·simp only [Act.put, List.setIfInBounds_toArray, List.set_cons_zero, List.set_cons_succ, i64_w, i32_w]
                          rfl
                         refine pure_ (i := 12) (N := some 130) (v := undef) (a' := ?_) #[true, true, true, true, true, true, true, true, true, true, true, true, true, false, false, false, false, false, false, false, false, false, false, false, false] rfl rfl (any_of HT_.out (by kernel_rfl)) (fun _ _ _ h => h) (Or.inr ⟨by rfl, rfl⟩) ?_ ?_
                         rotate_left
                         ·simp only [Act.put, List.setIfInBounds_toArray, List.set_cons_zero, List.set_cons_succ, i64_w, i32_w]
                          rfl
                         refine pure_ (i := 13) (N := some 131) (v := undef) (a' := ?_) #[true, true, true, true, true, true, true, true, true, true, true, true, true, true, false, false, false, false, false, false, false, false, false, false, false] rfl rfl (any_of HT_.out (by kernel_rfl)) (fun _ _ _ h => h) (Or.inr ⟨by rfl, rfl⟩) ?_ ?_
                         rotate_left
                         ·simp only [Act.put, List.setIfInBounds_toArray, List.set_cons_zero, List.set_cons_succ, i64_w, i32_w]
                          rfl
                         refine pure_ (i := 14) (N := some 132) (v := undef) (a' := ?_) #[true, true, true, true, true, true, true, true, true, true, true, true, true, true, true, false, false, false, false, false, false, false, false, false, false] rfl rfl (any_of HT_.out (by kernel_rfl)) (fun _ _ _ h => h) (Or.inr ⟨by rfl, rfl⟩) ?_ ?_
                         rotate_left
                         ·simp only [Act.put, List.setIfInBounds_toArray, List.set_cons_zero, List.set_cons_succ, i64_w, i32_w]
                          rfl
                         refine pure_ (i := 15) (N := some 133) (v := undef) (a' := ?_) #[true, true, true, true, true, true, true, true, true, true, true, true, true, true, true, true, false, false, false, false, false, false, false, false, false] rfl rfl (any_of HT_.out (by kernel_rfl)) (fun _ _ _ h => h) (Or.inr ⟨by rfl, rfl⟩) ?_ ?_
                         rotate_left
                         ·simp only [Act.put, List.setIfInBounds_toArray, List.set_cons_zero, List.set_cons_succ, i64_w, i32_w]
                          rfl
                         refine pure_ (i := 16) (N := some 134) (v := undef) (a' := ?_) #[true, true, true, true, true, true, true, true, true, true, true, true, true, true, true, true, true, false, false, false, false, false, false, false, false] rfl rfl (any_of HT_.out (by kernel_rfl)) (fun _ _ _ h => h) (Or.inr ⟨by rfl, rfl⟩) ?_ ?_
                         rotate_left
                         ·simp only [Act.put, List.setIfInBounds_toArray, List.set_cons_zero, List.set_cons_succ, i64_w, i32_w]
                          rfl
                         refine pure_ (i := 17) (N := some 135) (v := undef) (a' := ?_) #[true, true, true, true, true, true, true, true, true, true, true, true, true, true, true, true, true, true, false, false, false, false, false, false, false] rfl rfl (any_of HT_.out (by kernel_rfl)) (fun _ _ _ h => h) (Or.inr ⟨by rfl, rfl⟩) ?_ ?_
                         rotate_left
                         ·simp only [Act.put, List.setIfInBounds_toArray, List.set_cons_zero, List.set_cons_succ, i64_w, i32_w]
                          rfl
                         refine pure_ (i := 18) (N := some 136) (v := undef) (a' := ?_) #[true, true, true, true, true, true, true, true, true, true, true, true, true, true, true, true, true, true, true, false, false, false, false, false, false] rfl rfl (any_of HT_.out (by kernel_rfl)) (fun _ _ _ h => h) (Or.inr ⟨by rfl, rfl⟩) ?_ ?_
                         rotate_left
                         ·simp only [Act.put, List.setIfInBounds_toArray, List.set_cons_zero, List.set_cons_succ, i64_w, i32_w]
                          rfl
                         refine pure_ (i := 19) (N := some 137) (v := undef) (a' := ?_) #[true, true, true, true, true, true, true, true, true, true, true, true, true, true, true, true, true, true, true, true, false, false, false, false, false] rfl rfl (any_of HT_.out (by kernel_rfl)) (fun _ _ _ h => h) (Or.inr ⟨by rfl, rfl⟩) ?_ ?_
                         rotate_left
                         ·simp only [Act.put, List.setIfInBounds_toArray, List.set_cons_zero, List.set_cons_succ, i64_w, i32_w]
                          rfl
                         refine pure_ (i := 20) (N := some 138) (v := undef) (a' := ?_) #[true, true, true, true, true, true, true, true, true, true, true, true, true, true, true, true, true, true, true, true, true, false, false, false, false] rfl rfl (any_of HT_.out (by kernel_rfl)) (fun _ _ _ h => h) (Or.inr ⟨by rfl, rfl⟩) ?_ ?_
                         rotate_left
                         ·simp only [Act.put, List.setIfInBounds_toArray, List.set_cons_zero, List.set_cons_succ, i64_w, i32_w]
                          rfl
                         refine pure_ (i := 21) (N := some 139) (v := undef) (a' := ?_) #[true, true, true, true, true, true, true, true, true, true, true, true, true, true, true, true, true, true, true, true, true, true, false, false, false] rfl rfl (any_of HT_.out (by kernel_rfl)) (fun _ _ _ h => h) (Or.inr ⟨by rfl, rfl⟩) ?_ ?_
                         rotate_left
                         ·simp only [Act.put, List.setIfInBounds_toArray, List.set_cons_zero, List.set_cons_succ, i64_w, i32_w]
                          rfl
                         refine pure_ (i := 22) (N := some 140) (v := undef) (a' := ?_) #[true, true, true, true, true, true, true, true, true, true, true, true, true, true, true, true, true, true, true, true, true, true, true, false, false] rfl rfl (any_of HT_.out (by kernel_rfl)) (fun _ _ _ h => h) (Or.inr ⟨by rfl, rfl⟩) ?_ ?_
                         rotate_left
                         ·simp only [Act.put, List.setIfInBounds_toArray, List.set_cons_zero, List.set_cons_succ, i64_w, i32_w]
                          rfl
                         refine pure_ (i := 23) (N := some 141) (v := undef) (a' := ?_) #[true, true, true, true, true, true, true, true, true, true, true, true, true, true, true, true, true, true, true, true, true, true, true, true, false] rfl rfl (any_of HT_.out (by kernel_rfl)) (fun _ _ _ h => h) (Or.inr ⟨by rfl, rfl⟩) ?_ ?_
                         rotate_left
                         ·simp only [Act.put, List.setIfInBounds_toArray, List.set_cons_zero, List.set_cons_succ, i64_w, i32_w]
                          rfl
                         refine pure_ (i := 24) (N := some 142) (v := ?_) (a' := ?_) #[true, true, true, true, true, true, true, true, true, true, true, true, true, true, true, true, true, true, true, true, true, true, true, true, true] rfl rfl (any_of HT_.out (by kernel_rfl)) (fun _ _ _ h => h) (Or.inl ⟨by rfl, ?_⟩) ?_ ?_
                         rotate_left
                         ·intro w'
                          go_simp
                          with_reducible rfl
                         rotate_left
                         ·simp only [Act.put, List.setIfInBounds_toArray, List.set_cons_zero, List.set_cons_succ, i64_w, i32_w]
                          rfl
                         refine done_ (done_of HT_.out (by kernel_rfl)) ?_
                         try go_wp2
                         go_meet
                         case rel => exact ⟨_, (true), eqB, H', ⟨by have := HJ4.out; have := HK2.out; have := HJ30.out; have := HJ37.out; have := HK5.out; have := HK6.out; first | omega | exact Nat.le_refl _⟩, ⟨by (with_reducible repeat (first | apply Kd.R_alloc | apply Kd.R_drewN | apply Kd.R_drew)); exact HO_14.out⟩, ⟨by (with_reducible repeat (first | apply Kd.R_alloc | apply Kd.R_drewN | apply Kd.R_drew)); exact HO_149001.out⟩, ⟨by (with_reducible repeat (first | refine blk_drewN ?_ _ | refine blk_drew ?_ | refine blk_alloc ?_ _)); exact BK148.out⟩, ⟨hbs⟩⟩
                       ·rw [if_neg c62] at H
                        exact absurd H (by simp)
                      case rest =>
                       clear HC60
                       try clear p1
                       try clear q1
                       try clear hx1
                       try clear c2
                       try clear p2
                       try clear c3
                       try clear c6
                       try clear c7
                       try clear p16
                       try clear q16
                       try clear hx16
                       try clear c24
                       try clear c29
                       try clear c30
                       try clear c62
                       try clear c64
                       try clear c65
                       try clear c65b0
                       try clear c68
                       try clear c69
                       try clear c71
                       try clear hx162_0
                       try clear hx164_0
                       try clear hx166_0
                       try clear p162
                       try clear p164
                       try clear p166
                       try clear q162
                       try clear q164
                       try clear q166
                       obtain ⟨kq, x142_59, rfl, HA, HJ59, HO_14, HO_149001, BK148, HB⟩ := hcut
                       cases kq with
                       | zero => exact absurd HA.out (by simp [cusplaw05_SumsAny.j6])
                       | succ kj59 =>
                        have H := HA.out
                        clear HA
                        simp only [cusplaw05_SumsAny.j6] at H
                        by_cases c75 : x142_59 = true
                        ·subst c75
                         rw [if_pos rfl] at H
                         obtain rfl := Option.some.inj H
                         go_wp2
                         go_ret
                         exact ⟨eqC, hbs⟩
                        ·replace c75 := Bool.eq_false_iff.mpr c75
                         subst c75
                         rw [if_neg (show ¬ (false = true) by decide)] at H
                         by_cases c76 : 0 ≤ x18_6
                         ·rw [if_pos c76] at H
                          have c76b0 := decide_eq_true c76
                          clear c76
                          by_cases c77 : x18_6 < (t143.length : Int)
                          ·rw [if_pos c77] at H
                           have c77b0 := decide_eq_true c77
                           clear c77
                           replace H := Option.bind_eq_some_iff.mp H
                           obtain ⟨⟨t169, t170, t173⟩, A780, H⟩ := H
                           replace H : ((cuspref02_Less.f x149000_6 x149001_6 x149002_6 t169 t170 t173).bind fun bt174 => (cusplaw05_SumsAny.l2 kj59 t143 (wrap64 (x18_6 + 1)) bt174.1 bt174.2.1 bt174.2.2)) = some r := H
                           have A78 := asd A780
                           clear A780
                           replace H := Option.bind_eq_some_iff.mp H
                           obtain ⟨⟨t174, t175, t178⟩, A790, H⟩ := H
                           replace H : (cusplaw05_SumsAny.l2 kj59 t143 (wrap64 (x18_6 + 1)) t174 t175 t178) = some r := H
                           have A79 := asd A790
                           clear A790
                           have H' := asd H
                           clear H
                           try go_wp2
                           have n0_ := asd (Kd.R_drew HO_14.out)
                           have n1_ := asd (Kd.R_drew HO_149001.out)
                           have n2_ := asd (blk_drew BK148.out)
                           have n3_ := asd (below_drew1 HB.out)
                           clear HO_14
                           clear HO_149001
                           clear BK148
                           clear HB
                           have HO_14 := n0_
                           have HO_149001 := n1_
                           have BK148 := n2_
                           have HB := n3_
                           clear n0_ n1_ n2_ n3_
                           have p168 : 0 ≤ (x18_6 : Int) := odt
                           have q168 : x18_6 < (t143.length : Int) := odt
                           obtain ⟨ad168, e168, hx168_0⟩ := Kd.at_float (Kd.R_reads' HO_14.out).2.2 x18_6 p168 q168
                           cases e168
                           replace p168 := eq_true p168
                           replace q168 := eq_true q168
                           refine start_ (n := 8) (S := fun w' => w'.cell? ⟨gb148, 0, none⟩ = some (.bool x149000_6) ∧ w'.cell? ⟨gb148, 1, none⟩ = some (u149001) ∧ w'.cell? ⟨gb148, 2, none⟩ = some (.int .i64 x149002_6) ∧ w'.cell? (ad168.add (x18_6).toNat) = some (.float .f64 (rdOf (0 : Nat) t143 x18_6))) (ds := [7]) #[false, false, false, false, false, false, false, false] (by kernel_rfl) rfl rfl ⟨(blk_cell BK148.out 0).trans rfl, (blk_cell BK148.out 1).trans rfl, (blk_cell BK148.out 2).trans rfl, hx168_0⟩ (fun hHeld => ?_); refine with_tabW cusplaw05_SumsAny.tab28 cusplaw05_SumsAny.bits28 (fun HT_ HW_ => ?_)
                           generalize wc.drew = w80 at HO_14 HO_149001 BK148 HB hx168_0 hHeld ⊢
                           refine pure_ (i := 1) (N := some 144) (v := ?_) (a' := ?_) #[false, true, false, false, false, false, false, false] rfl rfl (any_of HT_.out (by kernel_rfl)) (fun _ _ _ h => h) (Or.inl ⟨by rfl, ?_⟩) ?_ ?_
                           rotate_left
                           ·intro w'
                            go_simp
                            with_reducible rfl
                           rotate_left
                           ·simp only [Act.put, List.setIfInBounds_toArray, List.set_cons_zero, List.set_cons_succ, i64_w, i32_w]
                            rfl
                           refine pure_ (i := 2) (N := some 145) (v := ?_) (a' := ?_) #[false, true, true, false, false, false, false, false] rfl rfl (any_of HT_.out (by kernel_rfl)) (fun _ _ _ h => h) (Or.inl ⟨by rfl, ?_⟩) ?_ ?_
                           rotate_left
                           ·intro w'
                            go_simp
                            with_reducible rfl
                           rotate_left
                           ·simp only [Act.put, List.setIfInBounds_toArray, List.set_cons_zero, List.set_cons_succ, i64_w, i32_w]
                            rfl
                           refine pure_ (i := 3) (N := some 146) (v := ?_) (a' := ?_) #[false, true, true, true, false, false, false, false] rfl rfl (any_of HT_.out (by kernel_rfl)) (fun _ _ _ h => h) (Or.inl ⟨by rfl, ?_⟩) ?_ ?_
                           rotate_left
                           ·intro w'
                            go_simp
                            with_reducible rfl
                           rotate_left
                           ·simp only [Act.put, List.setIfInBounds_toArray, List.set_cons_zero, List.set_cons_succ, i64_w, i32_w]
                            rfl
                           refine take_ (i := 0) (N := some 143) (v := ?_) (a' := ?_) #[true, true, true, true, false, false, false, false] rfl rfl (take_ofW HT_.out HW_.out (by kernel_rfl)) (fun _ _ _ h => h) (Or.inl ⟨by rfl, ?_⟩) hHeld ?_ ?_
                           rotate_left
                           ·rintro w' ⟨s0, s1, s2, s3⟩
                            go_simp
                            with_reducible rfl
                           rotate_left
                           ·simp only [Act.put, List.setIfInBounds_toArray, List.set_cons_zero, List.set_cons_succ, i64_w, i32_w]
                            rfl
                           refine take_ (i := 4) (N := some 147) (v := ?_) (a' := ?_) #[true, true, true, true, true, false, false, false] rfl rfl (take_ofW HT_.out HW_.out (by kernel_rfl)) (fun _ _ _ h => h) (Or.inl ⟨by rfl, ?_⟩) hHeld ?_ ?_
                           rotate_left
                           ·rintro w' ⟨s0, s1, s2, s3⟩
                            go_simp
                            with_reducible rfl
                           rotate_left
                           ·simp only [Act.put, List.setIfInBounds_toArray, List.set_cons_zero, List.set_cons_succ, i64_w, i32_w]
                            rfl
                           refine one_ (i := 5) (N := some 148) #[true, true, true, true, true, true, false, false] rfl rfl (one_of HT_.out (by kernel_rfl)) (by decide) (fun K hK => ?_)
                           refine goes_ Tryz.func26 (by kernel_rfl) rfl #[.float .f64 (rdOf (0 : Nat) t143 x18_6)] (by rfl) rfl rfl eqA ?_
                           with_reducible refine (cuspref02_Float.calls kj59 (rdOf (0 : Nat) t143 x18_6) t169 t170 t173 _ A78.out).mono ?_
                           rintro e w81 ⟨v171, rfl, ho0, hb⟩
                           have HS3_ := (hb.cell (World.block_lt_of_cell? _ _ (hHeld.2.2.2))).trans (hHeld.2.2.2)
                           refine ⟨_, rfl, ?_⟩
                           have n0_ := asd (Kd.R_below (rUp HO_14.out) hb)
                           have n1_ := asd (Kd.R_elder' (rUp HO_149001.out) (Kd.R_base ho0) hb)
                           have n2_ := asd (Kd.R_lower (Kd.R_new' ho0 (Kd.R_lt (rUp HO_149001.out))) (below_size hbs))
                           have n3_ := asd (blk_below (g := gb148) (o := .cells #[.bool x149000_6, u149001, .int .i64 x149002_6] 41 (0, 0)) (blkU BK148.out) hb)
                           have n4_ := asd (below_step hbs hb)
                           clear HO_14
                           clear HO_149001
                           clear BK148
                           clear HB
                           have HO_14 := n0_
                           have HO_149001 := n1_
                           have HO172 := n2_
                           have BK148 := n3_
                           have HB := n4_
                           clear n0_ n1_ n2_ n3_ n4_
                           (try clear hb)
                           (try clear hb2)
                           (try clear hk)
                           (try clear hi)
                           (try clear ho0)
                           obtain ⟨Ao82, co82, eo82⟩ := Kd.R_slice HO_149001.out
                           (first | subst eo82 | (injection eo82 with f1_ f2_ f3_; have f4_ := f1_.symm; have f5_ := f3_.symm; clear f1_ f2_ f3_; subst f4_; subst f5_))
                           obtain ⟨Ao83, co83, eo83⟩ := Kd.R_slice HO172.out
                           (first | subst eo83 | (injection eo83 with f1_ f2_ f3_; have f4_ := f1_.symm; have f5_ := f3_.symm; clear f1_ f2_ f3_; subst f4_; subst f5_))
                           refine hK.out _ _ ⟨(blk_cell BK148.out 0).trans rfl, (blk_cell BK148.out 1).trans rfl, (blk_cell BK148.out 2).trans rfl, HS3_⟩ (fun hHeld => ?_)
                           clear hK K
                           refine norm_ (a' := ?_) ?_ ?_
                           rotate_left
                           ·show Act.put _ (some 148) _ = _
                            simp only [Act.put, List.setIfInBounds_toArray, List.set_cons_zero, List.set_cons_succ, i64_w, i32_w]
                            rfl
                           refine one_ (i := 6) (N := some 149) #[true, true, true, true, true, true, true, false] rfl rfl (one_of HT_.out (by kernel_rfl)) (by decide) (fun K hK => ?_)
                           refine goes_ Tryz.func31 (by kernel_rfl) rfl #[.agg #[.bool x149000_6, .slice Ao82 x149001_6.length co82, .int .i64 x149002_6], .agg #[.bool t169, .slice Ao83 t170.length co83, .int .i64 t173]] (by rfl) rfl rfl eqA ?_
                           with_reducible refine (cuspref02_Less.calls x149000_6 _ _ x149001_6 x149002_6 t169 (fun k_ => some k_ = (.slice Ao83 t170.length co83 : Value).ownBlock) (.slice Ao83 t170.length co83) t170 t173 t174 t175 t178 w _ ?side1 ?side2 ?side3 ?side4 A79.out).mono ?_
                           (case side1 => repeat (first | (with_reducible first | exact HB.out | apply below_alloc | apply pw_below_drewN | apply below_drew1 | refine below_set ?_ GE148.out) | exact HB.out))
                           (case side2 => exact Kd.C_kept_own (HO_149001.out) (fun k_ hk_ hs_ => (hk_.2) hs_))
                           (case side3 => exact (Kd.R_reads' HO_149001.out).2.1)
                           (case side4 => exact Kd.R_tight rfl HO172.out)
                           rintro e w84 ⟨v176, rfl, ho0, hb, hkp⟩
                           have HS3_ := Go.Proofs.YthmeocigliephaaGreatDoorW.PrintWords.cell_kept (hHeld.2.2.2) hkp (by first | (rw [add_block]; exact (fun hs_ => ((((Kd.R_apart' HO_14.out (Kd.R_typed HO172.out) (by decide))).1 _ rfl).2) hs_)) | (show ¬ _; simp only [add_block]; exact (fun hs_ => ((((Kd.R_apart' HO_14.out (Kd.R_typed HO172.out) (by decide))).1 _ rfl).2) hs_)) | exact (fun hs_ => ((((Kd.R_apart' HO_14.out (Kd.R_typed HO172.out) (by decide))).1 _ rfl).2) hs_))
                           refine ⟨_, rfl, ?_⟩
                           have n0_ := asd (Kd.R_mono (ok' := fun k_ => True) (Kd.R_keptB ((Kd.R_apart' HO_14.out (Kd.R_typed HO172.out) (by decide))) hkp (fun k_ hk_ hs_ => (hk_.2) hs_)) (fun k_ hk_ => trivial))
                           have n1_ := asd (Kd.R_mono (ok' := fun k_ => some k_ ≠ (v176 : Value).ownBlock) (Kd.R_keptB (HO_149001.out) hkp (fun k_ hk_ hs_ => (hk_.2) hs_)) (fun k_ hk_ => fun e_ => Or.elim (ho0.1 k_ e_.symm) (fun hs_ => hk_.2.1 hs_) (fun hn_ => Nat.not_le.2 hk_.2.2 hn_)))
                           have n2_ := asd (blk_kept (blkU BK148.out) hkp (fun hs_ => (fun e_ => (Kd.R_ne HO172.out BK148.out (by decide)) e_) hs_))
                           have n3_ := asd (Kd.R_mono (ok' := fun k_ => some k_ ≠ (.slice Ao82 x149001_6.length co82 : Value).ownBlock) ho0 (fun k_ hk_ => Or.elim hk_ (fun hs_ => fun e_ => (((HO_149001.out).1 k_ e_.symm).2) hs_) (fun hn_ => (Kd.fresh' (Kd.R_lt (rUp HO_149001.out)) k_ hn_))))
                           have n4_ := asd (hb)
                           clear HO_14
                           clear HO_149001
                           clear BK148
                           clear HB
                           clear HO172
                           have HO_14 := n0_
                           have HO_149001 := n1_
                           have BK148 := n2_
                           have HO177 := n3_
                           have HB := n4_
                           clear n0_ n1_ n2_ n3_ n4_
                           (try clear hb)
                           (try clear hkp)
                           (try clear ho0)
                           obtain ⟨Ao86, co86, eo86⟩ := Kd.R_slice HO177.out
                           (first | subst eo86 | (injection eo86 with f1_ f2_ f3_; have f4_ := f1_.symm; have f5_ := f3_.symm; clear f1_ f2_ f3_; subst f4_; subst f5_))
                           refine hK.out _ _ ⟨(blk_cell BK148.out 0).trans rfl, (blk_cell BK148.out 1).trans rfl, (blk_cell BK148.out 2).trans rfl, HS3_⟩ (fun hHeld => ?_)
                           clear hK K
                           refine norm_ (a' := ?_) ?_ ?_
                           rotate_left
                           ·show Act.put _ (some 149) _ = _
                            simp only [Act.put, List.setIfInBounds_toArray, List.set_cons_zero, List.set_cons_succ, i64_w, i32_w]
                            rfl
                           refine last_ (i := 7) (N := none) #[true, true, true, true, true, true, true, true] rfl rfl (one_of HT_.out (by kernel_rfl)) (by decide) (fun K hK => ?_)
                           have hs85 : w84.cell? ⟨gb148, 0, none⟩ = some (.bool x149000_6) := (blk_cell BK148.out 0).trans rfl
                           have hfs85 := blk_frozen BK148.out 0
                           have hs87 : w84.cell? ⟨gb148, 1, none⟩ = some (.slice Ao82 x149001_6.length co82) := (blk_cell BK148.out 1).trans rfl
                           have hfs87 := blk_frozen BK148.out 1
                           have hs88 : w84.cell? ⟨gb148, 2, none⟩ = some (.int .i64 x149002_6) := (blk_cell BK148.out 2).trans rfl
                           have hfs88 := blk_frozen BK148.out 2
                           refine skip_ (w1 := ?_) (by rfl) rfl ?_ ?_
                           rotate_left
                           ·go_simp
                            rfl
                           refine hK.out _ _ ?_
                           clear hK K
                           refine done_ (done_of HT_.out (by kernel_rfl)) ?_
                           try go_wp2
                           go_roundg kj59
                           case measure => have := HJ4.out; have := HK2.out; have := HJ30.out; have := HJ37.out; have := HK5.out; have := HK6.out; have := HJ59.out; omega
                           case rel => exact ⟨(wrap64 (x18_6 + 1)), (t174), (t175), (t178), (.slice Ao86 t175.length co86), eqB, H', ⟨by have := HJ4.out; have := HK2.out; have := HJ30.out; have := HJ37.out; have := HK5.out; have := HK6.out; have := HJ59.out; omega⟩, ⟨by (with_reducible repeat (first | apply Kd.R_alloc | apply Kd.R_drewN | apply Kd.R_drew)); exact Kd.R_mono (Kd.R_far (p := ⟨gb148, 2, none⟩) (Kd.R_far (p := ⟨gb148, 1, none⟩) (Kd.R_far (p := ⟨gb148, 0, none⟩) (Kd.R_types HO_14.out BK148.out (by decide)) (fun _ hk => hk.2) (.bool t174)) (fun _ hk => hk.2) (.slice Ao86 t175.length co86)) (fun _ hk => hk.2) (.int .i64 t178)) (fun _ hk => trivial)⟩, ⟨by (with_reducible repeat (first | apply Kd.R_alloc | apply Kd.R_drewN | apply Kd.R_drew)); exact Kd.R_mono (Kd.R_far (p := ⟨gb148, 2, none⟩) (Kd.R_far (p := ⟨gb148, 1, none⟩) (Kd.R_far (p := ⟨gb148, 0, none⟩) (Kd.R_types HO177.out BK148.out (by decide)) (fun _ hk => hk.2) (.bool t174)) (fun _ hk => hk.2) (.slice Ao86 t175.length co86)) (fun _ hk => hk.2) (.int .i64 t178)) (fun _ hk => trivial)⟩, ⟨by (with_reducible repeat (first | refine blk_drewN ?_ _ | refine blk_drew ?_ | refine blk_alloc ?_ _)); refine blk_put (cs := #[.bool t174, .slice Ao86 t175.length co86, .int .i64 x149002_6]) ?_ 2 _ rfl; (with_reducible repeat (first | refine blk_drewN ?_ _ | refine blk_drew ?_ | refine blk_alloc ?_ _)); refine blk_put (cs := #[.bool t174, .slice Ao82 x149001_6.length co82, .int .i64 x149002_6]) ?_ 1 _ rfl; (with_reducible repeat (first | refine blk_drewN ?_ _ | refine blk_drew ?_ | refine blk_alloc ?_ _)); refine blk_put (cs := #[.bool x149000_6, .slice Ao82 x149001_6.length co82, .int .i64 x149002_6]) ?_ 0 _ rfl; (with_reducible repeat (first | refine blk_drewN ?_ _ | refine blk_drew ?_ | refine blk_alloc ?_ _)); exact BK148.out⟩, ⟨hbs⟩⟩
                          ·rw [if_neg c77] at H
                           exact absurd H (by simp)
                         ·rw [if_neg c76] at H
                          exact absurd H (by simp)
                     ·rw [if_neg c59] at H
                      have c59b0 := decide_eq_false c59
                      clear c59
                      replace H := Option.bind_eq_some_iff.mp H
                      obtain ⟨t160, A890, H⟩ := H
                      have A89 := asd A890
                      clear A890
                      by_cases c90 : t160 = 0
                      ·rw [if_pos c90] at H
                       have c90b0 := beq_iff_eq.mpr c90
                       have c90b1 := bne_eq_false_iff_eq.mpr c90
                       clear c90
                       replace H := Option.bind_eq_some_iff.mp H
                       obtain ⟨t161, A910, H⟩ := H
                       have A91 := asd A910
                       clear A910
                       obtain rfl := Option.some.inj H
                       obtain ⟨Ao92, co92, eo92⟩ := Kd.R_slice HO_14.out
                       subst eo92
                       obtain ⟨hcz93_0, hcz93_1, hcz93_2, hfz93_0, hfz93_1, hfz93_2⟩ := cz3 BK148.out
                       obtain ⟨Ao94, co94, eo94⟩ := Kd.R_slice HO_149001.out
                       subst eo94
                       go_wp2_with (first | ((with_reducible refine gate_callee (f := 32) rfl ?_); refine goesL_ (some 151) rfl rfl Tryz.func32 (by kernel_rfl) rfl #[.agg #[.bool x149000_6, .slice Ao94 x149001_6.length co94, .int .i64 x149002_6]] rfl eqA ?_; (with_reducible refine (cuspref02_Sgn.calls x149000_6 _ _ x149001_6 x149002_6 t160 _ ?side1 ?side2 A89.out).mono ?_); (case side1 => repeat (first | exact (Kd.R_reads' HO_149001.out).2.2 | (with_reducible refine Kd.C_alloc ?_ _) | (with_reducible refine Kd.C_drewN ?_ _) | (with_reducible refine Kd.C_drew ?_))); (case side2 => exact (Kd.R_reads' HO_149001.out).2.1); rintro e w95 ⟨rfl, hb⟩; refine ⟨_, rfl, ?_⟩; have n0_ := asd (Kd.R_below (rUp HO_14.out) hb); have n1_ := asd (Kd.R_below (rUp HO_149001.out) hb); have n2_ := asd (blk_below (g := gb148) (o := .cells #[.bool x149000_6, .slice Ao94 x149001_6.length co94, .int .i64 x149002_6] 41 (0, 0)) (blkU BK148.out) hb); have n3_ := asd (below_step hbs hb); clear HO_14; clear HO_149001; clear BK148; clear HB; have HO_14 := n0_; have HO_149001 := n1_; have BK148 := n2_; have HB := n3_; clear n0_ n1_ n2_ n3_; (try clear hb)) | (go_at_call 19; (with_reducible refine (cusplaw05_sure.calls  t161 _ A91.out).mono ?_); rintro e w96 ⟨rfl, hb⟩; have n0_ := asd (Kd.R_below (rUp HO_14.out) hb); have n1_ := asd (Kd.R_below (rUp HO_149001.out) hb); have n2_ := asd (blk_below (g := gb148) (o := .cells #[.bool x149000_6, .slice Ao94 x149001_6.length co94, .int .i64 x149002_6] 41 (0, 0)) (blkU BK148.out) hb); have n3_ := asd (below_step hbs hb); clear HO_14; clear HO_149001; clear BK148; clear HB; have HO_14 := n0_; have HO_149001 := n1_; have BK148 := n2_; have HB := n3_; clear n0_ n1_ n2_ n3_; (try clear hb)))
                       go_ret
                       exact ⟨eqC, hbs⟩
                      ·rw [if_neg c90] at H
                       have c90b0 := beq_eq_false_iff_ne.mpr c90
                       have c90b1 := bne_iff_ne.mpr c90
                       obtain rfl := Option.some.inj H
                       obtain ⟨Ao97, co97, eo97⟩ := Kd.R_slice HO_14.out
                       subst eo97
                       obtain ⟨hcz98_0, hcz98_1, hcz98_2, hfz98_0, hfz98_1, hfz98_2⟩ := cz3 BK148.out
                       obtain ⟨Ao99, co99, eo99⟩ := Kd.R_slice HO_149001.out
                       subst eo99
                       go_wp2_with (first | ((with_reducible refine gate_callee (f := 32) rfl ?_); refine goesL_ (some 151) rfl rfl Tryz.func32 (by kernel_rfl) rfl #[.agg #[.bool x149000_6, .slice Ao99 x149001_6.length co99, .int .i64 x149002_6]] rfl eqA ?_; (with_reducible refine (cuspref02_Sgn.calls x149000_6 _ _ x149001_6 x149002_6 t160 _ ?side1 ?side2 A89.out).mono ?_); (case side1 => repeat (first | exact (Kd.R_reads' HO_149001.out).2.2 | (with_reducible refine Kd.C_alloc ?_ _) | (with_reducible refine Kd.C_drewN ?_ _) | (with_reducible refine Kd.C_drew ?_))); (case side2 => exact (Kd.R_reads' HO_149001.out).2.1); rintro e w100 ⟨rfl, hb⟩; refine ⟨_, rfl, ?_⟩; have n0_ := asd (Kd.R_below (rUp HO_14.out) hb); have n1_ := asd (Kd.R_below (rUp HO_149001.out) hb); have n2_ := asd (blk_below (g := gb148) (o := .cells #[.bool x149000_6, .slice Ao99 x149001_6.length co99, .int .i64 x149002_6] 41 (0, 0)) (blkU BK148.out) hb); have n3_ := asd (below_step hbs hb); clear HO_14; clear HO_149001; clear BK148; clear HB; have HO_14 := n0_; have HO_149001 := n1_; have BK148 := n2_; have HB := n3_; clear n0_ n1_ n2_ n3_; (try clear hb)))
                       go_ret
                       exact ⟨eqC, hbs⟩
      ·rw [if_neg c14] at H
       exact absurd H (by simp)
     ·rw [if_neg c11] at H
      exact absurd H (by simp)
    ·rw [if_neg c10] at H
     exact absurd H (by simp)
   ·rw [if_neg c9] at H
    exact absurd H (by simp)
end Go.Proofs.YthmeocigliephaaGreatDoor.PSy
end
section
namespace Go.Proofs.YthmeocigliephaaGreatDoor.Big
open Go.Proofs.YthmeocigliephaaGreatDoor.PSv Go.Proofs.YthmeocigliephaaGreatDoor.PSu Go.Proofs.YthmeocigliephaaGreatDoor.Plain Ieee
def Ahead (L : List Nat) (i : Nat) (z : Int) : Prop := 0 < i → Fin64 (rdOf (0 : Nat) L ((i : Int) - 1)) ∧ 2 * z.natAbs ≤ 2 ^ unitE (rdOf (0 : Nat) L ((i : Int) - 1)) ∧ (z ≠ 0 → 1 ≤ unitE (rdOf (0 : Nat) L ((i : Int) - 1)))
theorem any_l2 : ∀ (k : Nat) (pre : List Nat) (z : Int) (L : List Nat), apartL k pre z = some (L, 0) → Ahead L pre.length z → L.length ≤ 100000 →
    Ev (fun n => PSy.cusplaw05_SumsAny.l2 n L (pre.length : Int) (canN z (-1074)).1 (canN z (-1074)).2.1 (canN z (-1074)).2.2) true
  | 0, _, _, _, h, _, _ => by cases h
  | k + 1, pre, z, L, h, hA, hLn => by
    have h' := h
    rw [apartL] at h
    by_cases hz : z = 0
    · rw [if_pos hz] at h
      cases h
      obtain ⟨s, hs, hs0⟩ := rsgn_can z (-1074)
      refine Ev.step (f := fun _ => some true) (fun n => ?_) (Ev.now _)
      rw [PSy.cusplaw05_SumsAny.l2, if_neg (by omega), hs, Option.bind_some, if_pos (hs0.2 hz)]
      rfl
    · rw [if_neg hz] at h
      by_cases hg : bl z.natAbs ≤ 2200 ∧ pre.length < 100000
      · rw [if_pos hg] at h
        rcases rnd_cases hz with ⟨hi, hlt⟩ | ⟨hi, hf, he⟩
        · rw [if_pos hi] at h
          cases h
        · rw [if_neg (by rw [hi]; decide), if_pos hf] at h
          obtain ⟨f, hff⟩ : ∃ f, rndZ z 2 = f := ⟨_, rfl⟩
          have hhalf := half_err hz hi
          have hpow := @rnd_pow z
          rw [hff] at h hf hhalf hi
          obtain ⟨s, hs⟩ := apartL_pre h
          have hlen : pre.length < L.length := by rw [hs, List.length_append, List.length_append, List.length_singleton]; omega
          have hrd : rdOf (0 : Nat) L (pre.length : Int) = f := by
            rw [rdOf_get L pre.length hlen]
            simp [hs]
          have hA2 : Ahead L (pre ++ [f]).length (z - flz f) := by
            intro _
            rw [show (((pre ++ [f]).length : Nat) : Int) - 1 = (pre.length : Int) by simp, hrd]
            exact ⟨hf, hhalf.1, hhalf.2⟩
          have ih := any_l2 k (pre ++ [f]) (z - flz f) L h hA2 hLn
          have hfb : bl (flz f).natAbs ≤ 2098 := bl_le.2 (flz_lt hf)
          have step : Ev (fun n => PSy.cusplaw05_SumsAny.j6 n L (pre.length : Int) false (canN z (-1074)).1 (canN z (-1074)).2.1 (canN z (-1074)).2.2) true := by
            refine Ev.step (f := fun n => (cuspref02_Float.f n f).bind fun b => (cuspref02_Less.f (canN z (-1074)).1 (canN z (-1074)).2.1 (canN z (-1074)).2.2 b.1 b.2.1 b.2.2).bind fun d => PSy.cusplaw05_SumsAny.l2 n L ((pre ++ [f]).length : Int) d.1 d.2.1 d.2.2) (fun n => ?_) ?_
            · have hw : wrap64 ((pre.length : Int) + 1) = ((pre ++ [f]).length : Int) := by rw [w64_of (by omega) (by omega)]; simp
              rw [PSy.cusplaw05_SumsAny.j6, if_neg (by decide), if_pos (by omega), if_pos (by omega), hrd, hw]
            · refine Ev.bind (rfloat_law hf) (Ev.congr (fun n => ?_) ih)
              rw [rless_can (by omega) (by omega), Option.bind_some]
          have hfin : cuspref01_Finite.f f = some true := by rw [rfinite_law hf.1, decide_eq_true hf]
          refine Ev.step (f := fun n => PSy.cusplaw05_SumsAny.j6 n L (pre.length : Int) false (canN z (-1074)).1 (canN z (-1074)).2.1 (canN z (-1074)).2.2) (fun n => ?_) step
          rw [PSy.cusplaw05_SumsAny.l2, if_pos (by omega), if_pos (by omega), hrd, hfin, Option.bind_some, if_pos rfl]
          by_cases h0 : (pre.length : Int) > 0
          · obtain ⟨a1, a2, a3⟩ := hA (by omega)
            have a3 := a3 hz
            rw [if_pos h0, rabs_law hf.1, Option.bind_some, w64_of (by omega) (by omega), if_pos (by omega), if_pos (by omega), runit_law a1, Option.bind_some]
            obtain ⟨E, hE⟩ : ∃ E, unitE (rdOf (0 : Nat) L ((pre.length : Int) - 1)) = E + 1 := ⟨_, (Nat.succ_pred_eq_of_pos a3).symm⟩
            have hEl := unitE_lt a1
            rw [hE] at a2 hEl ⊢
            rw [unitB_half (by omega), if_pos (show (some (unitB E)).isSome = true from rfl)]
            have hle : (flz f).natAbs ≤ 2 ^ E := by
              rw [← hff]
              exact hpow hz (by rw [hff]; exact hi) (by rw [Nat.pow_succ] at a2; omega)
            have ha := abs_flz hf
            have hu := unitB_flz (E := E) (by omega)
            have hcmp : ((FloatKind.f64.format.order (absN f) ((some (unitB E)).getD 0)) == some .gt) = false := by
              have habs : absN f = f % 9223372036854775808 := by unfold absN; rw [bits_abs f hf.1]; rfl
              rw [habs]
              show ((FloatKind.f64.format.order (f % 9223372036854775808) (unitB E)) == some .gt) = false
              rw [order_fin ha.1 hu.1, ha.2, hu.2, beq_eq_false_iff_ne]
              intro hc
              have hc := Option.some.inj hc
              rw [Int.compare_eq_gt] at hc
              omega
            rw [hcmp]
          · rw [if_neg h0]
      · rw [if_neg hg] at h; cases h
theorem any_l1 (l L : List Nat) (hf : ∀ b ∈ l, Fin64 b) (hl : l.length ≤ 65536) (k : Nat) (h : apartL k [] (sumZ l) = some (L, 0)) (hLn : L.length ≤ 100000) : ∀ d i : Nat, i + d = l.length →
    Ev (fun n => PSy.cusplaw05_SumsAny.l1 n l L (i : Int) (canN (sumZ (l.take i)) (-1074)).1 (canN (sumZ (l.take i)) (-1074)).2.1 (canN (sumZ (l.take i)) (-1074)).2.2) true := by
  intro d
  induction d with
  | zero =>
    intro i hi
    obtain rfl : i = l.length := by omega
    rw [List.take_length]
    refine Ev.step (fun n => ?_) (any_l2 k [] (sumZ l) L h (fun h => absurd h (by simp)) hLn)
    rw [PSy.cusplaw05_SumsAny.l1, if_neg (by omega)]
    rfl
  | succ d ih =>
    intro i hi
    have hil : i < l.length := by omega
    have hb := hf l[i] (List.getElem_mem hil)
    have ht : ∀ b ∈ l.take i, Fin64 b := fun b hb => hf b (List.mem_of_mem_take hb)
    have e1 : sumZ (l.take i) + flz l[i] = sumZ (l.take (i + 1)) := by
      rw [List.take_succ_eq_append_getElem hil, sumZ_append]; simp [sumZ]
    have b1 := sumZ_bl (l.take i) ht (by rw [List.length_take]; omega)
    have b2 : bl (flz l[i]).natAbs ≤ 2098 := bl_le.2 (flz_lt hb)
    have h := ih (i + 1) (by omega)
    rw [← e1] at h
    refine Ev.step (f := fun n => (cuspref02_Float.f n l[i]).bind fun b => (cuspref02_Plus.f (canN (sumZ (l.take i)) (-1074)).1 (canN (sumZ (l.take i)) (-1074)).2.1 (canN (sumZ (l.take i)) (-1074)).2.2 b.1 b.2.1 b.2.2).bind fun d => PSy.cusplaw05_SumsAny.l1 n l L ((i + 1 : Nat) : Int) d.1 d.2.1 d.2.2) (fun n => ?_) ?_
    · rw [PSy.cusplaw05_SumsAny.l1, if_pos (by omega), if_pos (by omega), rdOf_get l i hil, w64_succ (by omega)]
    · refine Ev.bind (rfloat_law hb) (Ev.congr (fun n => ?_) h)
      rw [rplus_can (by omega) (by omega), Option.bind_some]
theorem any_j2 (l : List Nat) (hw : ∀ b ∈ l, b < 18446744073709551616) (hn : l.length < 4611686018427387904) (e : Int) : Ev (fun n => PSy.cusplaw05_SumsAny.j2 n l e false) true := by
  have hap : PSy.sums_Apart.f l = some (apartT l) := by unfold PSy.sums_Apart.f; rw [if_pos ⟨hn, hw⟩]
  have jt : ∀ a : List Nat, Ev (fun n => PSy.cusplaw05_SumsAny.j3 n l a true) true := fun a => Ev.step (f := fun _ => some true) (fun n => by rw [PSy.cusplaw05_SumsAny.j3, if_pos rfl]; rfl) (Ev.now _)
  obtain ⟨⟨a, g⟩, hT⟩ : ∃ p, apartT l = p := ⟨_, rfl⟩
  by_cases hg : g = 0
  · by_cases he : e = 0
    · refine Ev.step (f := fun n => PSy.cusplaw05_SumsAny.j3 n l a false) (fun n => ?_) ?_
      · rw [PSy.cusplaw05_SumsAny.j2, if_neg (by decide), hap, hT, Option.bind_some, if_pos hg, show (e != 0) = false by rw [he]; rfl]
      · subst hg
        unfold apartT at hT
        by_cases hf : faultL l = 0
        · obtain ⟨h1, h2⟩ := fault_zero hw hf
          obtain ⟨L, q, hL⟩ := apart_sum h2 h1
          rw [if_pos hf, hL] at hT
          cases hT
          have hlen := apartL_len _ _ _ _ _ hL (by simp)
          have := any_l1 l a h2 h1 3000 hL hlen l.length 0 (by omega)
          rw [List.take_zero, show sumZ [] = 0 from rfl, canN_zero] at this
          exact Ev.step (fun n => by rw [PSy.cusplaw05_SumsAny.j3, if_neg (by decide)]; rfl) this
        · rw [if_neg hf] at hT
          exact absurd (Prod.mk.inj hT).2 hf
    · refine Ev.step (f := fun n => PSy.cusplaw05_SumsAny.j3 n l a true) (fun n => ?_) (jt a)
      rw [PSy.cusplaw05_SumsAny.j2, if_neg (by decide), hap, hT, Option.bind_some, if_pos hg, show (e != 0) = true by rw [bne_iff_ne]; exact he]
  · refine Ev.step (f := fun n => PSy.cusplaw05_SumsAny.j3 n l a true) (fun n => ?_) (jt a)
    rw [PSy.cusplaw05_SumsAny.j2, if_neg (by decide), hap, hT, Option.bind_some, if_neg hg]
theorem any_l0 (l : List Nat) (hw : ∀ b ∈ l, b < 18446744073709551616) (hn : l.length < 17592186044416) (mode : Int) (s : Nat) (e : Int) (he : sums_Exact.f l mode = some (s, e)) : ∀ (d i : Nat) (m : List Nat), m.Perm l → l.length ≤ i + d → i ≤ l.length + 1 →
    Ev (fun n => PSy.cusplaw05_SumsAny.l0 n l mode s e m (i : Int)) true := by
  have fin : ∀ (i : Nat) (m : List Nat), m.Perm l → i ≤ l.length + 1 → ¬ (i + 1 < m.length) → Ev (fun n => PSy.cusplaw05_SumsAny.l0 n l mode s e m (i : Int)) true := by
    intro i m hp hb hlt
    refine Ev.step (f := fun n => PSy.cusplaw05_SumsAny.j2 n l e false) (fun n => ?_) (any_j2 l hw (by omega) e)
    rw [PSy.cusplaw05_SumsAny.l0, w64_of (by omega) (by omega), if_neg (by omega), exact_perm hp, he, Option.bind_some, same_law, Option.bind_some, if_pos rfl, show (e != e) = false by simp]
  intro d
  induction d with
  | zero => exact fun i m hp hi hb => fin i m hp hb (by have := hp.length_eq; omega)
  | succ d ih =>
    intro i m hp hi hb
    have hm := hp.length_eq
    by_cases hlt : i + 1 < m.length
    · have r0 : rdOf (0 : Nat) m (i : Int) = m[i] := rdOf_get m i (by omega)
      have r1 : rdOf (0 : Nat) m ((i : Int) + 1) = m[i + 1] := by
        have := rdOf_get m (i + 1) hlt
        rw [← this]
        rfl
      have t1 : ((i : Int) + 1).toNat = i + 1 := by omega
      refine Ev.step (f := fun n => PSy.cusplaw05_SumsAny.l0 n l mode s e ((m.set i m[i + 1]).set (i + 1) m[i]) ((i + 2 : Nat) : Int)) (fun n => ?_) (ih (i + 2) _ ((List.set_set_perm (by omega) hlt).trans hp) (by omega) (by omega))
      rw [PSy.cusplaw05_SumsAny.l0, w64_of (x := (i : Int) + 1) (by omega) (by omega), w64_of (x := (i : Int) + 2) (by omega) (by omega), if_pos (by omega), if_pos (by omega), if_pos (by omega), if_pos (by omega), r0, r1, t1, Int.toNat_natCast]
      rfl
    · exact fin i m hp hb hlt
theorem any_pure (l : List Nat) (hw : ∀ b ∈ l, b < 18446744073709551616) (hn : l.length < 17592186044416) (by_ mode : Int) : Ev (fun n => PSy.cusplaw05_SumsAny.f n l by_ mode) true := by
  obtain ⟨⟨s, e⟩, he⟩ : ∃ p, sums_Exact.f l mode = some p := by
    unfold sums_Exact.f
    rw [if_pos ⟨by omega, hw⟩]
    exact ⟨_, rfl⟩
  have j0 : ∀ x : Int, 0 ≤ x → x ≤ l.length → Ev (fun n => PSy.cusplaw05_SumsAny.j0 n l mode s e [] x) true := by
    intro x h0 h1
    have hp : (([] ++ l.drop x.toNat) ++ l.take x.toNat).Perm l := by
      rw [List.nil_append]
      have := List.perm_append_comm (l₁ := l.drop x.toNat) (l₂ := l.take x.toNat)
      rwa [List.take_append_drop] at this
    have hd : (l.drop x.toNat).length ≤ l.length := by rw [List.length_drop]; omega
    have ht : (l.take x.toNat).length ≤ l.length := by rw [List.length_take]; omega
    have hs := hp.length_eq
    rw [List.length_append] at hs
    refine Ev.step (fun n => ?_) (any_l0 l hw hn mode s e he l.length 0 _ hp (by omega) (by omega))
    rw [PSy.cusplaw05_SumsAny.j0, if_pos h0, if_pos h1, if_pos (by rw [List.length_nil]; omega), Option.bind_some, if_pos (by omega)]
    rfl
  unfold PSy.cusplaw05_SumsAny.f
  rw [he]
  simp only [Option.bind_some]
  by_cases hl : (l.length : Int) > 0
  · have t1 := Int.tmod_lt_of_pos by_ hl
    have t2 := Int.lt_tmod_of_pos by_ hl
    have t3 : wrap64 (Int.tmod by_ (l.length : Int) + (l.length : Int)) = Int.tmod by_ (l.length : Int) + (l.length : Int) := w64_of (by omega) (by omega)
    have t4 := Int.tmod_nonneg (l.length : Int) (show 0 ≤ Int.tmod by_ (l.length : Int) + (l.length : Int) by omega)
    have t5 := Int.tmod_lt_of_pos (Int.tmod by_ (l.length : Int) + (l.length : Int)) hl
    refine Ev.congr (fun n => by rw [if_pos hl, if_neg (by omega), t3]) (j0 _ t4 (by omega))
  · exact Ev.congr (fun n => if_neg hl) (j0 0 (by omega) (by omega))
end Go.Proofs.YthmeocigliephaaGreatDoor.Big
end
