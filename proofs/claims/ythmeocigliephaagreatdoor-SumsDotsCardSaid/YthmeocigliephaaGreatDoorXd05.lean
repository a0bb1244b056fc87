/- Parts of the proof, behind one another; unused words are left out. -/
import Derived.Test.YthmeocigliephaaGreatDoorXd04
set_option linter.unusedVariables false
set_option linter.unusedSimpArgs false
set_option linter.unusedSectionVars false
set_option exponentiation.threshold 100000
set_option maxRecDepth 100000
set_option maxHeartbeats 8000000
open Go.RowKit Go.Proofs.YthmeocigliephaaGreatDoorW.PrintWords Go.Proofs.YthmeocigliephaaGreatDoorW.PrintLast Go.Proofs.YthmeocigliephaaGreatDoorW.PrintMore
section
namespace Go.Proofs.YthmeocigliephaaGreatDoor.Big
open Go.Proofs.YthmeocigliephaaGreatDoor.PSu Go.Proofs.YthmeocigliephaaGreatDoor.Plain Ieee
def halvesT : Nat → List Nat → Nat
  | 0, _ => 0
  | n + 1, l => if l.length = 0 then 0 else if l.length = 1 then rdOf (0 : Nat) l 0 else sumT (halvesT n (l.take (l.length / 2))) (halvesT n (l.drop (l.length / 2)))
theorem halvesT_lt : ∀ (n : Nat) (l : List Nat), (∀ b ∈ l, b < 18446744073709551616) → halvesT n l < 18446744073709551616
  | 0, _, _ => by unfold halvesT; omega
  | n + 1, l, h => by
    unfold halvesT
    split
    · omega
    · split
      · exact rd_lt h 0
      · exact sumT_lt (halvesT_lt n _ fun b hb => h b (List.mem_of_mem_take hb)) (halvesT_lt n _ fun b hb => h b (List.mem_of_mem_drop hb))
def halves_T : Bool × List (List Nat × List Nat) := (true, [([], []), ([], []), ([1], [1]), ([0, 2], [0, 2]), ([3], [3]), ([], []), ([], []), ([6], [6]), ([5, 7], [5, 7]), ([8, 4], [8]), ([4, 9, 9], [4, 9]), ([10, 10, 0, 1, 2, 3, 4, 5, 6, 7, 8, 9, 10], [10])])
def halves_B : List Nat := [0, 0, 2, 7, 15, 0, 0, 64, 224, 511, 1023, 2047]
theorem halves_tab : rtab .any (opsOf Tryz.f14 3) = halves_T := by kernel_rfl
theorem halves_bits : waitsOk halves_T.2 halves_B = true := by kernel_rfl
theorem halves_rel (n : Nat) : ∀ (A0 : Option Addr) (c0 : Nat) (l0 : List Nat) (w : World), l0.length ≤ n ∧ l0.length < 4611686018427387904 → Kd.C Kd.float w A0 l0.length l0 → l0.length ≤ c0 → (∀ b ∈ l0, b < 18446744073709551616) → Laid w →
    Calls Tryz.prog 14 #[.slice A0 l0.length c0] w (RetRel (halvesT n l0) w) := by
  induction n with
  | zero =>
    intro A0 c0 l0 w hn hr hc hw hL
    have HB := asd (Below.refl w.heap.size w)
    obtain rfl : l0 = [] := List.length_eq_zero_iff.1 (by omega)
    clear hn hr hc hw hL
    go_enter Tryz.func14, Tryz.ntmps14
    go_wp2
    go_ret
    exact ⟨0, .inl rfl, by omega, rfl, HB.out⟩
  | succ n ih =>
  intro A0 c0 l0 w hn hr hc hw hL
  have IH := asd ih
  have HL := asd hL
  have HB := asd (Below.refl w.heap.size w)
  clear ih
  obtain ⟨T, hT⟩ : ∃ T, halvesT (n + 1) l0 = T := ⟨_, rfl⟩
  rw [hT]
  unfold halvesT at hT
  by_cases c2 : (l0.length : Int) = 0
  · have c2b0 : ((l0.length : Int) == 0) = true := beq_iff_eq.mpr c2
    rw [if_pos (by omega)] at hT
    subst hT
    clear c2 hn hr hc hw hL
    go_enter Tryz.func14, Tryz.ntmps14
    go_wp2
    go_ret
    exact ⟨0, .inl rfl, by omega, rfl, HB.out⟩
  have c2b0 : ((l0.length : Int) == 0) = false := beq_eq_false_iff_ne.mpr c2
  have c2b1 : ((l0.length : Int) != 0) = true := bne_iff_ne.mpr c2
  have c2b2 : ¬ (l0 = []) := fun h_ => c2 (by rw [h_]; rfl)
  rw [if_neg (by omega)] at hT
  by_cases c3 : (l0.length : Int) = 1
  · have c3b0 : ((l0.length : Int) == 1) = true := beq_iff_eq.mpr c3
    have c3b1 : ((l0.length : Int) != 1) = false := bne_eq_false_iff_eq.mpr c3
    rw [if_pos (by omega)] at hT
    have HX := asd (rd_lt hw 0)
    have p172 : 0 ≤ (0 : Int) := (by omega)
    have q172 : 0 < (l0.length : Int) := by omega
    obtain ⟨ad172, e172, hx172_0⟩ := Kd.at_float hr 0 p172 q172
    cases e172
    rw [hT] at hx172_0 HX
    have qi172 : (0 < l0.length) = True := eq_true (by omega)
    rw [show ((0 : Int)).toNat = 0 from rfl, Addr.add_zero'] at hx172_0
    replace p172 := eq_true p172
    replace q172 := eq_true q172
    clear c3 hT hn hr hc hw hL c2
    go_enter Tryz.func14, Tryz.ntmps14
    go_wp2
    go_ret
    exact ⟨T, .inl rfl, HX.out, rfl, HB.out⟩
  · have c3b0 : ((l0.length : Int) == 1) = false := beq_eq_false_iff_ne.mpr c3
    have c3b1 : ((l0.length : Int) != 1) = true := bne_iff_ne.mpr c3
    rw [if_neg (by omega)] at hT
    obtain ⟨ji5, hji5⟩ : ∃ j_ : Int, (wrap64 ((l0.length : Int) / 2)) = j_ := ⟨_, rfl⟩
    have hji5w : (IntKind.i64.wrap ((l0.length : Int) / 2)) = ji5 := (i64_w _).trans hji5
    have hj : ji5 = (l0.length : Int) / 2 := by rw [← hji5]; exact w64_of (by omega) (by omega)
    have hj2 : (ji5 : Int).toNat = l0.length / 2 := by omega
    rw [← hj2] at hT
    have c6b1 : decide (0 ≤ (ji5)) = true := decide_eq_true (by omega)
    have c7b1 : decide ((ji5) ≤ (l0.length : Int)) = true := decide_eq_true (by omega)
    have J1 := asd (show (l0.take ((ji5) : Int).toNat).length ≤ n ∧ (l0.take ((ji5) : Int).toNat).length < 4611686018427387904 by rw [List.length_take]; omega)
    have J2 := asd (show ∀ b ∈ l0.take ((ji5) : Int).toNat, b < 18446744073709551616 from fun b hb => hw b (List.mem_of_mem_take hb))
    have J3 := asd (show (l0.drop ((ji5) : Int).toNat).length ≤ n ∧ (l0.drop ((ji5) : Int).toNat).length < 4611686018427387904 by rw [List.length_drop]; omega)
    have J4 := asd (show ∀ b ∈ l0.drop ((ji5) : Int).toNat, b < 18446744073709551616 from fun b hb => hw b (List.mem_of_mem_drop hb))
    have HT := asd hT
    have HR0 := asd hr
    have HC0 := asd hc
    have HJ0 := asd (show 0 ≤ ji5 ∧ ji5 ≤ (l0.length : Int) by omega)
    have c6b0 := eq_true HJ0.out.1
    have c7b0 := eq_true HJ0.out.2
    clear hj hj2 hT hn hr hc hw hL
    go_enter Tryz.func14, Tryz.ntmps14
    try go_wp2
    have n0_ := asd (below_drew1 HB.out)
    clear HB
    have HB := n0_
    clear n0_
    obtain ⟨i014, hi014, _, hsz14, _⟩ := info_parts info25
    obtain ⟨hcut14, hA14, hC14⟩ := print_take_of (P := Tryz.prog) (Value.float .f64) (0 : Nat) 22 25 .i64 Tryz.underlying22 hi014 hsz14 A0 c0 l0 (ji5) (odt) (odt) HC0.out
    have HR173 := asd (Kd.C_of_reads (h1 := fun _ => rfl) (hA14 _ (Kd.reads_of_C HR0.out)))
    have HC173 := asd hC14
    clear hA14 hC14 hi014 hsz14
    obtain ⟨i015, hi015, _, hsz15, _⟩ := info_parts info25
    obtain ⟨A15, hcut15, hA15, hC15⟩ := print_drop_of (P := Tryz.prog) (Value.float .f64) (0 : Nat) 22 25 .i64 Tryz.underlying22 hi015 hsz15 A0 c0 l0 (ji5) (odt) (odt) HC0.out
    have HR175 := asd (Kd.C_of_reads (h1 := fun _ => rfl) (hA15 _ (Kd.reads_of_C HR0.out)))
    have HC175 := asd hC15
    clear hA15 hC15 hi015 hsz15
    refine start_ (n := 12) (S := fun w' => True) (ds := []) #[false, false, false, false, false, false, false, false, false, false, false, false] (by kernel_rfl) rfl rfl trivial (fun hHeld => ?_); refine with_tabW halves_tab halves_bits (fun HT_ HW_ => ?_)
    generalize w.drew = w13 at HB HR173 HR175 hHeld ⊢
    refine pure_ (i := 0) (N := some 7) (v := ?_) (a' := ?_) #[true, false, false, false, false, false, false, false, false, false, false, false] rfl rfl (any_of HT_.out (by kernel_rfl)) (fun _ _ _ h => h) (Or.inl ⟨by rfl, ?_⟩) ?_ ?_
    rotate_left
    · intro w'
      go_simp
      with_reducible rfl
    rotate_left
    · simp only [Act.put, List.setIfInBounds_toArray, List.set_cons_zero, List.set_cons_succ, i64_w, i32_w]
      rfl
    refine pure_ (i := 1) (N := some 8) (v := ?_) (a' := ?_) #[true, true, false, false, false, false, false, false, false, false, false, false] rfl rfl (any_of HT_.out (by kernel_rfl)) (fun _ _ _ h => h) (Or.inl ⟨by rfl, ?_⟩) ?_ ?_
    rotate_left
    · intro w'
      go_simp
      with_reducible rfl
    rotate_left
    · simp only [Act.put, List.setIfInBounds_toArray, List.set_cons_zero, List.set_cons_succ, i64_w, i32_w]
      rfl
    refine pure_ (i := 2) (N := some 9) (v := ?_) (a' := ?_) #[true, true, true, false, false, false, false, false, false, false, false, false] rfl rfl (any_of HT_.out (by kernel_rfl)) (fun _ _ _ h => h) (Or.inl ⟨by rfl, ?_⟩) ?_ ?_
    rotate_left
    · intro w'
      go_simp
      with_reducible rfl
    rotate_left
    · simp only [Act.put, List.setIfInBounds_toArray, List.set_cons_zero, List.set_cons_succ, i64_w, i32_w]
      rfl
    refine pure_ (i := 3) (N := some 10) (v := ?_) (a' := ?_) #[true, true, true, true, false, false, false, false, false, false, false, false] rfl rfl (any_of HT_.out (by kernel_rfl)) (fun _ _ _ h => h) (Or.inl ⟨by rfl, ?_⟩) ?_ ?_
    rotate_left
    · intro w'
      go_simp
      with_reducible rfl
    rotate_left
    · simp only [Act.put, List.setIfInBounds_toArray, List.set_cons_zero, List.set_cons_succ, i64_w, i32_w]
      rfl
    refine pure_ (i := 5) (N := some 12) (v := ?_) (a' := ?_) #[true, true, true, true, false, true, false, false, false, false, false, false] rfl rfl (any_of HT_.out (by kernel_rfl)) (fun _ _ _ h => h) (Or.inl ⟨by rfl, ?_⟩) ?_ ?_
    rotate_left
    · intro w'
      go_simp
      with_reducible rfl
    rotate_left
    · simp only [Act.put, List.setIfInBounds_toArray, List.set_cons_zero, List.set_cons_succ, i64_w, i32_w]
      rfl
    refine pure_ (i := 6) (N := some 13) (v := ?_) (a' := ?_) #[true, true, true, true, false, true, true, false, false, false, false, false] rfl rfl (any_of HT_.out (by kernel_rfl)) (fun _ _ _ h => h) (Or.inl ⟨by rfl, ?_⟩) ?_ ?_
    rotate_left
    · intro w'
      go_simp
      with_reducible rfl
    rotate_left
    · simp only [Act.put, List.setIfInBounds_toArray, List.set_cons_zero, List.set_cons_succ, i64_w, i32_w]
      rfl
    refine pure_ (i := 7) (N := some 14) (v := ?_) (a' := ?_) #[true, true, true, true, false, true, true, true, false, false, false, false] rfl rfl (any_of HT_.out (by kernel_rfl)) (fun _ _ _ h => h) (Or.inl ⟨by rfl, ?_⟩) ?_ ?_
    rotate_left
    · intro w'
      go_simp
      with_reducible rfl
    rotate_left
    · simp only [Act.put, List.setIfInBounds_toArray, List.set_cons_zero, List.set_cons_succ, i64_w, i32_w]
      rfl
    refine pure_ (i := 8) (N := some 15) (v := ?_) (a' := ?_) #[true, true, true, true, false, true, true, true, true, false, false, false] rfl rfl (any_of HT_.out (by kernel_rfl)) (fun _ _ _ h => h) (Or.inl ⟨by rfl, ?_⟩) ?_ ?_
    rotate_left
    · intro w'
      go_simp
      with_reducible rfl
    rotate_left
    · simp only [Act.put, List.setIfInBounds_toArray, List.set_cons_zero, List.set_cons_succ, i64_w, i32_w]
      rfl
    refine one_ (i := 4) (N := some 11) #[true, true, true, true, true, true, true, true, true, false, false, false] rfl rfl (one_of HT_.out (by kernel_rfl)) (by decide) (fun K hK => ?_)
    refine goes_ Tryz.func14 (by kernel_rfl) rfl #[.slice A0 (l0.take ((ji5) : Int).toNat).length c0] (by rfl) rfl rfl (by (try simp only [List.map_toArray, List.map_cons, List.map_nil]); first | done | (rw [show (l0.take ((ji5) : Int).toNat).length = (ji5).toNat from (by rw [List.length_take]; have h_ : ((ji5) : Int) ≤ (l0.length : Int) := odt; omega)] <;> rfl) | (simp only [hji5]; rfl) | rfl | (simp only [List.length_drop, List.length_take]; rfl)) ?_
    refine (IH.out A0 c0 (l0.take ((ji5) : Int).toNat) _ J1.out (Kd.C_below HR173.out HB.out) HC173.out J2.out (HL.out.step HB.out)).mono ?_
    rintro e w16 ⟨t174, n1, n2, rfl, hb⟩
    have N1 := asd (And.intro n1 n2)
    clear n1 n2
    refine ⟨_, rfl, ?_⟩
    have n0_ := asd (below_step hbw hb)
    clear HB
    have HB := n0_
    clear n0_
    (try clear hb)
    (try clear hb2)
    (try clear hk)
    (try clear hi)
    refine hK.out _ _ trivial (fun hHeld => ?_)
    clear hK K
    refine norm_ (a' := ?_) ?_ ?_
    rotate_left
    · show Act.put _ (some 11) _ = _
      simp only [Act.put, List.setIfInBounds_toArray, List.set_cons_zero, List.set_cons_succ, i64_w, i32_w]
      rfl
    refine one_ (i := 9) (N := some 16) #[true, true, true, true, true, true, true, true, true, true, false, false] rfl rfl (one_of HT_.out (by kernel_rfl)) (by decide) (fun K hK => ?_)
    refine goes_ Tryz.func14 (by kernel_rfl) rfl #[.slice A15 (l0.drop ((ji5) : Int).toNat).length (c0 - (ji5).toNat)] (by rfl) rfl rfl (by (try simp only [List.map_toArray, List.map_cons, List.map_nil]); first | done | (rw [show (l0.drop ((ji5) : Int).toNat).length = (l0.length - (ji5).toNat) from List.length_drop] <;> rfl) | (simp only [hji5]; rfl) | rfl | (simp only [List.length_drop, List.length_take]; rfl)) ?_
    refine (IH.out A15 (c0 - (ji5).toNat) (l0.drop ((ji5) : Int).toNat) _ J3.out (Kd.C_below HR175.out HB.out) HC175.out J4.out (HL.out.step HB.out)).mono ?_
    rintro e w17 ⟨t176, n1, n2, rfl, hb⟩
    have N2 := asd (And.intro n1 n2)
    clear n1 n2
    refine ⟨_, rfl, ?_⟩
    have n0_ := asd (below_step hbw hb)
    clear HB
    have HB := n0_
    clear n0_
    (try clear hb)
    (try clear hb2)
    (try clear hk)
    (try clear hi)
    refine hK.out _ _ trivial (fun hHeld => ?_)
    clear hK K
    refine norm_ (a' := ?_) ?_ ?_
    rotate_left
    · show Act.put _ (some 16) _ = _
      simp only [Act.put, List.setIfInBounds_toArray, List.set_cons_zero, List.set_cons_succ, i64_w, i32_w]
      rfl
    refine one_ (i := 10) (N := some 17) #[true, true, true, true, true, true, true, true, true, true, true, false] rfl rfl (one_of HT_.out (by kernel_rfl)) (by decide) (fun K hK => ?_)
    refine goes_ Tryz.func39 (by kernel_rfl) rfl #[.float .f64 t174, .float .f64 t176] (by rfl) rfl rfl eqA ?_
    refine (near_rel t174 t176 _ N1.out.2 N2.out.2 (HL.out.step HB.out)).mono ?_
    rintro e w18 ⟨t177, n1, n2, rfl, hb⟩
    have N3 := asd (And.intro n1 n2)
    clear n1 n2
    refine ⟨_, rfl, ?_⟩
    have n0_ := asd (below_step hbw hb)
    clear HB
    have HB := n0_
    clear n0_
    (try clear hb)
    (try clear hb2)
    (try clear hk)
    (try clear hi)
    refine hK.out _ _ trivial (fun hHeld => ?_)
    clear hK K
    refine norm_ (a' := ?_) ?_ ?_
    rotate_left
    · show Act.put _ (some 17) _ = _
      simp only [Act.put, List.setIfInBounds_toArray, List.set_cons_zero, List.set_cons_succ, i64_w, i32_w]
      rfl
    refine pure_ (i := 11) (N := some 2) (v := ?_) (a' := ?_) #[true, true, true, true, true, true, true, true, true, true, true, true] rfl rfl (any_of HT_.out (by kernel_rfl)) (fun _ _ _ h => h) (Or.inl ⟨by rfl, ?_⟩) ?_ ?_
    rotate_left
    · intro w'
      go_simp
      with_reducible rfl
    rotate_left
    · simp only [Act.put, List.setIfInBounds_toArray, List.set_cons_zero, List.set_cons_succ, i64_w, i32_w]
      rfl
    refine done_ (done_of HT_.out (by kernel_rfl)) ?_
    try go_wp2
    go_ret
    refine ⟨t177, ?_, N3.out.2, rfl, HB.out⟩
    have := relN_sum N1.out.2 N2.out.2 (halvesT_lt n _ J2.out) (halvesT_lt n _ J4.out) N1.out.1 N2.out.1
    exact HT.out ▸ relN_trans N3.out.1 this
end Go.Proofs.YthmeocigliephaaGreatDoor.Big
end
section
namespace Go.Proofs.YthmeocigliephaaGreatDoor.Big
open Go.Proofs.YthmeocigliephaaGreatDoor.PSu Go.Proofs.YthmeocigliephaaGreatDoor.Plain Ieee
attribute [local go_sem] neg_float
def absN (b : Nat) : Nat := (Go.bits .andNot .u64 ((b : Nat) : Int) 9223372036854775808 : Int).toNat
theorem abs_some (b : Nat) : math_Abs.f b = some (absN b) := rfl
def geN (a b : Nat) : Bool := (FloatKind.f64.format.order (absN a) (absN b)) == some .gt || (FloatKind.f64.format.order (absN a) (absN b)) == some .eq
def negN (b : Nat) : Nat := Op.negFloat .f64 b
theorem negN_law {b : Nat} (hb : b < 18446744073709551616) : negN b < 18446744073709551616 ∧ negN b % 9223372036854775808 = b % 9223372036854775808 := by
  have h : negN b = b ^^^ 2 ^ 63 := rfl
  rw [h]
  refine ⟨Nat.xor_lt_two_pow (n := 64) hb (by decide), ?_⟩
  have : (b ^^^ 2 ^ 63) % 2 ^ 63 = b % 2 ^ 63 := by
    rw [Nat.xor_mod_two_pow, Nat.mod_self, Nat.xor_zero]
  exact this
theorem negN_lt {b : Nat} (hb : b < 18446744073709551616) : negN b < 18446744073709551616 := (negN_law hb).1
theorem negN_nan {b : Nat} (hb : b < 18446744073709551616) : nanB (negN b) = nanB b := by
  rw [nan_law (negN_lt hb), nan_law hb, (negN_law hb).2]
theorem relN_neg {a b : Nat} (ha : a < 18446744073709551616) (hb : b < 18446744073709551616) (h : relN a b) : relN (negN a) (negN b) := by
  rcases h with rfl | ⟨h1, h2⟩
  · exact .inl rfl
  · exact .inr ⟨by rw [negN_nan ha, h1], by rw [negN_nan hb, h2]⟩
theorem absN_law {b : Nat} (hb : b < 18446744073709551616) : absN b = b % 9223372036854775808 := by
  unfold absN
  rw [bits_abs b hb, Int.toNat_natCast]
theorem geN_nan {a : Nat} (ha : a < 18446744073709551616) (b : Nat) (h : nanB a = true) : geN a b = false := by
  rw [nan_law ha, decide_eq_true_eq] at h
  have : FloatKind.f64.format.order (absN a) (absN b) = none := by
    show double.order _ _ = _
    rw [absN_law ha]
    obtain ⟨s, f, hr⟩ := read_nan (b := a % 9223372036854775808) (by omega)
    unfold Format.order
    rw [hr]; rfl
  unfold geN
  rw [this]; rfl
theorem relN_ge {a b : Nat} (ha : a < 18446744073709551616) (hb : b < 18446744073709551616) (x : Nat) (h : relN a b) : geN a x = geN b x := by
  rcases h with rfl | ⟨h1, h2⟩
  · rfl
  · rw [geN_nan ha x h1, geN_nan hb x h2]
def lossT (s x t : Nat) : Nat := if geN s x = true then sumT (sumT s (negN t)) x else sumT (sumT x (negN t)) s
def keptT : List Nat → Nat → Nat → Nat
  | [], s, c => sumT s c
  | x :: l, s, c => keptT l (sumT s x) (sumT c (lossT s x (sumT s x)))
theorem lossT_lt {s x t : Nat} (hs : s < 18446744073709551616) (hx : x < 18446744073709551616) (ht : t < 18446744073709551616) : lossT s x t < 18446744073709551616 := by
  unfold lossT
  split
  · exact sumT_lt (sumT_lt hs (negN_lt ht)) hx
  · exact sumT_lt (sumT_lt hx (negN_lt ht)) hs
theorem kept_rel (A : Option Addr) (c : Nat) (l : List Nat) (w : World) (hr : Kd.C Kd.float w A l.length l) (hc : l.length ≤ c) (hn : l.length < 4611686018427387904) (hw : ∀ b ∈ l, b < 18446744073709551616) (hL : Laid w) :
    Calls Tryz.prog 16 #[.slice A l.length c] w (RetRel (keptT l 0 0) w) := by
  have HL := asd hL
  have HB := asd (Below.refl w.heap.size w)
  have HW := asd hw
  have HR := asd hr
  have HN := asd hn
  obtain ⟨T, hT⟩ : ∃ T, keptT l 0 0 = T := ⟨_, rfl⟩
  rw [hT]
  have HT := asd (show keptT (l.drop 0) 0 0 = T from hT)
  clear hL hr hc hn hw hT
  go_enter Tryz.func16, Tryz.ntmps16
  go_wp2
  go_loopg [3, 4, 10] l.length (fun kq v3 v4 v10 w' => ∃ (s s' c c' i : Nat), v3 = .float .f64 s ∧ v4 = .float .f64 c ∧ v10 = .int .i64 (i : Int) ∧ Aside0 (relN s s' ∧ s < 18446744073709551616 ∧ s' < 18446744073709551616) ∧ Aside0 (relN c c' ∧ c < 18446744073709551616 ∧ c' < 18446744073709551616) ∧ Aside0 (keptT (l.drop i) s' c' = T) ∧ Aside0 (kq + i = l.length) ∧ Aside0 (Below w.heap.size w w'))
  case atStart => exact ⟨0, 0, 0, 0, 0, rfl, rfl, rfl, ⟨.inl rfl, by omega, by omega⟩, ⟨.inl rfl, by omega, by omega⟩, HT, ⟨by omega⟩, HB⟩
  case round =>
    clear HT HB
    obtain ⟨s, s', c, c', i, rfl, rfl, rfl, HS, HC, HT, HK, HB⟩ := hrel
    have hi0 : (0 : Int) ≤ (i : Int) := by omega
    cases gk with
    | zero =>
      have c1 : decide ((i : Int) < (l.length : Int)) = false := by have := HK.out; simp; omega
      have c1n : decide (i < l.length) = false := by have := HK.out; simp; omega
      have hT := HT.out
      rw [List.drop_eq_nil_of_le (by have := HK.out; omega)] at hT
      have HT2 := asd (show sumT s' c' = T from hT)
      clear hT HT
      go_wp2_with (go_at_call 39; refine (near_rel s c _ HS.out.2.1 HC.out.2.1 (HL.out.step HB.out)).mono ?_; rintro e w1 ⟨r, n1, n2, rfl, d⟩; have N1 := asd (And.intro n1 n2); have HB2 := asd (below_post d HB.out); clear n1 n2 d)
      go_ret
      exact ⟨r, by rw [← HT2.out]; exact relN_trans N1.out.1 (relN_sum HS.out.2.1 HC.out.2.1 HS.out.2.2 HC.out.2.2 HS.out.1 HC.out.1), N1.out.2, rfl, HB2.out⟩
    | succ k1 =>
      have hi : i < l.length := by have := HK.out; omega
      have p1 : 0 ≤ (i : Int) := hi0
      have q1 : (i : Int) < (l.length : Int) := by omega
      have c1 : decide ((i : Int) < (l.length : Int)) = true := by simp; omega
      have c1n : decide (i < l.length) = true := by simp; omega
      obtain ⟨ad, e159, hx⟩ := Kd.at_float HR.out (i : Int) p1 q1
      cases e159
      replace hx := (HB.out.cell (World.block_lt_of_cell? w _ hx)).trans hx
      rw [Int.toNat_natCast] at hx
      have hT := HT.out
      rw [drop_rd _ i hi] at hT
      have HX := asd (rd_lt HW.out (i : Int))
      obtain ⟨x, hx0⟩ : ∃ x, rdOf (0 : Nat) l (i : Int) = x := ⟨_, rfl⟩
      rw [hx0] at hx hT HX
      have HT2 := asd (show keptT (l.drop (i + 1)) (sumT s' x) (sumT c' (lossT s' x (sumT s' x))) = T from hT)
      have HI := asd hi
      replace p1 := eq_true p1
      replace q1 := eq_true q1
      have A1 := asd (abs_some s)
      have A2 := asd (abs_some x)
      have tok1 : True := trivial
      clear hT hx0 hi HT
      have hg := relN_ge HS.out.2.1 HS.out.2.2 x HS.out.1
      have G := asd hg
      clear hg
      rcases hq : geN s x with _ | _
      · have hge : ((FloatKind.f64.format.order (absN s) (absN x)) == some .gt || (FloatKind.f64.format.order (absN s) (absN x)) == some .eq) = false := hq
        have G2 := asd (G.out.symm.trans hq)
        clear hq
        go_wp2_with (first
          | (go_at_call 39; have _t := tok1; refine (near_rel s x _ HS.out.2.1 HX.out (HL.out.step HB.out)).mono ?_; rintro e w1 ⟨t, n1, n2, rfl, d⟩; have N1 := asd (And.intro n1 n2); have HB2 := asd (below_post d HB.out); have tok2 : True := trivial; clear n1 n2 d _t tok1)
          | (go_at_call 41; have _t := tok2; refine (math_Abs.calls s _ _ A1.out).mono ?_; rintro e w2 ⟨rfl, d⟩; have HB3 := asd (below_post d.below HB2.out); clear d _t tok2)
          | (go_at_call 41; refine (math_Abs.calls x _ _ A2.out).mono ?_; rintro e w3 ⟨rfl, d⟩; have HB4 := asd (below_post d.below HB3.out); have tok3 : True := trivial; clear d)
          | (go_at_call 39; have _t := tok3; refine (near_rel x (negN t) _ HX.out (negN_lt N1.out.2) (HL.out.step HB4.out)).mono ?_; rintro e w4 ⟨u, n1, n2, rfl, d⟩; have N2 := asd (And.intro n1 n2); have HB5 := asd (below_post d HB4.out); have tok4 : True := trivial; clear n1 n2 d _t tok3)
          | (go_at_call 39; have _t := tok4; refine (near_rel u s _ N2.out.2 HS.out.2.1 (HL.out.step HB5.out)).mono ?_; rintro e w5 ⟨v, n1, n2, rfl, d⟩; have N3 := asd (And.intro n1 n2); have HB6 := asd (below_post d HB5.out); clear n1 n2 d _t tok4)
          | (go_at_call 39; refine (near_rel c v _ HC.out.2.1 N3.out.2 (HL.out.step HB6.out)).mono ?_; rintro e w6 ⟨y, n1, n2, rfl, d⟩; have N4 := asd (And.intro n1 n2); have HB7 := asd (below_post d HB6.out); clear n1 n2 d))
        go_roundg k1
        case measure => omega
        case rel =>
          have t1 : relN t (sumT s' x) := relN_trans N1.out.1 (relN_sum HS.out.2.1 HX.out HS.out.2.2 HX.out HS.out.1 (relN_self x))
          have l1 := sumT_lt HS.out.2.2 HX.out
          have t2 : relN u (sumT x (negN (sumT s' x))) := relN_trans N2.out.1 (relN_sum HX.out (negN_lt N1.out.2) HX.out (negN_lt l1) (relN_self x) (relN_neg N1.out.2 l1 t1))
          have l2 := sumT_lt HX.out (negN_lt l1)
          have t3 : relN v (lossT s' x (sumT s' x)) := by
            unfold lossT
            rw [if_neg (by rw [G2.out]; simp)]
            exact relN_trans N3.out.1 (relN_sum N2.out.2 HS.out.2.1 l2 HS.out.2.2 t2 HS.out.1)
          have l3 := lossT_lt HS.out.2.2 HX.out l1
          exact ⟨t, sumT s' x, y, _, i + 1, rfl, rfl, by congr 1; have := HI.out; have := HN.out; exact (w64_of (by omega) (by omega)).trans (by omega), ⟨t1, N1.out.2, l1⟩, ⟨relN_trans N4.out.1 (relN_sum HC.out.2.1 N3.out.2 HC.out.2.2 l3 HC.out.1 t3), N4.out.2, sumT_lt HC.out.2.2 l3⟩, HT2, ⟨by have := HK.out; omega⟩, HB7⟩
      · have hge : ((FloatKind.f64.format.order (absN s) (absN x)) == some .gt || (FloatKind.f64.format.order (absN s) (absN x)) == some .eq) = true := hq
        have G2 := asd (G.out.symm.trans hq)
        clear hq
        go_wp2_with (first
          | (go_at_call 39; have _t := tok1; refine (near_rel s x _ HS.out.2.1 HX.out (HL.out.step HB.out)).mono ?_; rintro e w1 ⟨t, n1, n2, rfl, d⟩; have N1 := asd (And.intro n1 n2); have HB2 := asd (below_post d HB.out); have tok2 : True := trivial; clear n1 n2 d _t tok1)
          | (go_at_call 41; have _t := tok2; refine (math_Abs.calls s _ _ A1.out).mono ?_; rintro e w2 ⟨rfl, d⟩; have HB3 := asd (below_post d.below HB2.out); clear d _t tok2)
          | (go_at_call 41; refine (math_Abs.calls x _ _ A2.out).mono ?_; rintro e w3 ⟨rfl, d⟩; have HB4 := asd (below_post d.below HB3.out); have tok3 : True := trivial; clear d)
          | (go_at_call 39; have _t := tok3; refine (near_rel s (negN t) _ HS.out.2.1 (negN_lt N1.out.2) (HL.out.step HB4.out)).mono ?_; rintro e w4 ⟨u, n1, n2, rfl, d⟩; have N2 := asd (And.intro n1 n2); have HB5 := asd (below_post d HB4.out); have tok4 : True := trivial; clear n1 n2 d _t tok3)
          | (go_at_call 39; have _t := tok4; refine (near_rel u x _ N2.out.2 HX.out (HL.out.step HB5.out)).mono ?_; rintro e w5 ⟨v, n1, n2, rfl, d⟩; have N3 := asd (And.intro n1 n2); have HB6 := asd (below_post d HB5.out); clear n1 n2 d _t tok4)
          | (go_at_call 39; refine (near_rel c v _ HC.out.2.1 N3.out.2 (HL.out.step HB6.out)).mono ?_; rintro e w6 ⟨y, n1, n2, rfl, d⟩; have N4 := asd (And.intro n1 n2); have HB7 := asd (below_post d HB6.out); clear n1 n2 d))
        go_roundg k1
        case measure => omega
        case rel =>
          have t1 : relN t (sumT s' x) := relN_trans N1.out.1 (relN_sum HS.out.2.1 HX.out HS.out.2.2 HX.out HS.out.1 (relN_self x))
          have l1 := sumT_lt HS.out.2.2 HX.out
          have t2 : relN u (sumT s' (negN (sumT s' x))) := relN_trans N2.out.1 (relN_sum HS.out.2.1 (negN_lt N1.out.2) HS.out.2.2 (negN_lt l1) HS.out.1 (relN_neg N1.out.2 l1 t1))
          have l2 := sumT_lt HS.out.2.2 (negN_lt l1)
          have t3 : relN v (lossT s' x (sumT s' x)) := by
            unfold lossT
            rw [if_pos G2.out]
            exact relN_trans N3.out.1 (relN_sum N2.out.2 HX.out l2 HX.out t2 (relN_self x))
          have l3 := lossT_lt HS.out.2.2 HX.out l1
          exact ⟨t, sumT s' x, y, _, i + 1, rfl, rfl, by congr 1; have := HI.out; have := HN.out; exact (w64_of (by omega) (by omega)).trans (by omega), ⟨t1, N1.out.2, l1⟩, ⟨relN_trans N4.out.1 (relN_sum HC.out.2.1 N3.out.2 HC.out.2.2 l3 HC.out.1 t3), N4.out.2, sumT_lt HC.out.2.2 l3⟩, HT2, ⟨by have := HK.out; omega⟩, HB7⟩
end Go.Proofs.YthmeocigliephaaGreatDoor.Big
end
section
namespace Go.Proofs.YthmeocigliephaaGreatDoor.Big
open Go.Proofs.YthmeocigliephaaGreatDoor.PSu Go.Proofs.YthmeocigliephaaGreatDoor.Plain Ieee
theorem sumT_fin {a b : Nat} (ha : a < 18446744073709551616) (hb : b < 18446744073709551616) (h : Fin64 (sumT a b)) : Fin64 a ∧ Fin64 b ∧ sumT a b = sumV a b := by
  obtain ⟨h1, h2⟩ := kind_fin h
  unfold sumT at h1 h2 ⊢
  by_cases ho : opp a b
  · rw [if_pos ho] at h1; exact absurd h1 (by decide +kernel)
  · rw [if_neg ho] at h1 h2 ⊢
    unfold sumV at h1 h2
    by_cases hn : nanB a = true ∨ nanB b = true
    · rw [if_pos hn] at h1; exact absurd h1 (by decide +kernel)
    · have n1 : nanB a = false := by cases h : nanB a; rfl; exact absurd (.inl h) hn
      have n2 : nanB b = false := by cases h : nanB b; rfl; exact absurd (.inr h) hn
      rw [if_neg hn] at h2
      by_cases ia : infB? a = true
      · rw [if_pos ia, ia] at h2; cases h2
      · rw [if_neg ia] at h2
        by_cases ib : infB? b = true
        · rw [if_pos ib, ib] at h2; cases h2
        · exact ⟨fin_kind ha n1 (by simpa using ia), fin_kind hb n2 (by simpa using ib), rfl⟩
def lostT (a b : Nat) : Nat := if Fin64 (sumT a b) then rndZ (flz a + flz b - flz (sumT a b)) 2 else 0
theorem isinf_some (b : Nat) : math_IsInf.f b 0 = some (infB? b) := inf_some b
theorem two_rest {a b r : Nat} (ha : a < 18446744073709551616) (hb : b < 18446744073709551616) (h : relN r (sumT a b)) (hr : r < 18446744073709551616) :
    (if ((FloatKind.f64.format.order r r) != some .eq) = true then (sums_Two.j0 4 a b r true) else ((math_IsInf.f r 0).bind fun t231 => (sums_Two.j0 4 a b r t231))) = some (r, lostT a b) := by
  unfold lostT
  by_cases hf : Fin64 (sumT a b)
  · obtain ⟨fa, fb, hs⟩ := sumT_fin ha hb hf
    obtain rfl := relN_eq h (kind_fin hf).1
    rw [if_pos hf]
    have h1 := sum_bl fa fb
    have h2 : bl (flz (sumT a b)).natAbs ≤ 2098 := bl_le.2 (flz_lt hf)
    have ht := total_law [a, b] (fun x hx => by simp at hx; rcases hx with rfl | rfl <;> assumption) (by simp)
    have hz : sumZ [a, b] = flz a + flz b := by simp [sumZ]
    have hd : bl (flz a + flz b - flz (sumT a b)).natAbs ≤ 60000 := by
      have h3 := Int.natAbs_sub_le (flz a + flz b) (flz (sumT a b))
      have h4 := bl_add (k := 2100) h1 (by omega : bl (flz (sumT a b)).natAbs ≤ 2100)
      have := bl_le.2 (Nat.lt_of_le_of_lt h3 (bl_le.1 h4))
      omega
    rw [if_neg (by rw [nan_fin hf]; simp), isinf_some, (kind_fin hf).2, Option.bind_some, sums_Two.j0, if_neg (by simp), show (3 : Nat) = [a, b].length + 1 from rfl, ht, Option.bind_some, num_law hf, Option.bind_some, hz]
    rw [show [a, b].length + 1 = 0 + 3 from rfl, dsub_law 0 (by omega) (by omega), Option.bind_some]
    simp only
    rw [round_can hd (by omega)]
    rfl
  · rw [if_neg hf]
    by_cases hn : nanB r = true
    · refine (if_pos hn).trans ?_
      rw [sums_Two.j0, if_pos rfl]
    · refine (if_neg hn).trans ?_
      have he : r = sumT a b := by
        rcases h with h | ⟨h, _⟩
        · exact h
        · exact absurd h hn
      have hi : infB? r = true := by
        cases h : infB? r
        · exact absurd (he ▸ fin_kind hr (by simpa using hn) h) hf
        · rfl
      rw [isinf_some, hi, Option.bind_some, sums_Two.j0, if_pos rfl]
theorem two_rel (a0 a1 : Nat) (w : World) (ha : a0 < 18446744073709551616) (hb : a1 < 18446744073709551616) (hL : Laid w) :
    Calls Tryz.prog 20 #[.float .f64 a0, .float .f64 a1] w fun e w' => ∃ r, relN r (sumT a0 a1) ∧ r < 18446744073709551616 ∧ e = .returned (.tuple #[.float .f64 r, .float .f64 (lostT a0 a1)]) ∧ Below w.heap.size w w' := by
  have HL := asd hL
  obtain ⟨k, hk⟩ : ∃ k : Nat, k = 4 := ⟨_, rfl⟩
  have HC4 := asd (fun r h1 h2 => two_rest (r := r) ha hb h1 h2)
  rw [← hk] at HC4
  obtain ⟨L, hLL⟩ : ∃ L, lostT a0 a1 = L := ⟨_, rfl⟩
  rw [hLL] at HC4 ⊢
  have HA := asd ha
  have HA1 := asd hb
  clear hL hk hLL ha hb
  have hu60 := Tryz.underlying60
  have HB := asd (Below.refl w.heap.size w)
  go_enter Tryz.func20, Tryz.ntmps20
  go_upto_region 2 with (first | ((with_reducible refine gate_callee (f := 39) rfl ?_); refine goesL_ (some 13) rfl rfl Tryz.func39 (by kernel_rfl) rfl #[.float .f64 a0, .float .f64 a1] rfl eqA ?_; refine (near_rel a0 a1 _ HA.out HA1.out HL.out).mono ?_; rintro e w5 ⟨t230, n1, n2, rfl, hb⟩; refine ⟨_, rfl, ?_⟩; have N1 := asd (And.intro n1 n2); have HC5 := asd (HC4.out t230 n1 n2); clear n1 n2; replace HB := asd (below_step hbw hb); (try clear hb)))
  (try simp only [Act.put, List.setIfInBounds_toArray, List.set_cons_zero, List.set_cons_succ])
  go_cut [20] (fun v20 wc => ∃ (kq : Nat) (x20_3 : Bool), v20 = .bool x20_3 ∧ Aside0 (sums_Two.j0 kq a0 a1 t230 x20_3 = some (t230, L)) ∧ Aside0 (kq ≤ k) ∧ Aside0 (Below w.heap.size w wc))
  case first =>
    have H := HC5.out
    clear HC4 HC5
    by_cases c6 : ((FloatKind.f64.format.order t230 t230) != some .eq) = true
    · rw [if_pos c6] at H
      have c6b0 : ((FloatKind.f64.format.order t230 t230) != some .eq) = true := c6
      (try (have c6b1 : decide ((FloatKind.f64.format.order t230 t230) = some .eq) = false := by simpa using c6))
      (try (have c6b2 : ((FloatKind.f64.format.order t230 t230) == some .eq) = false := by simpa using c6))
      (try (have c6b3 : ¬ ((FloatKind.f64.format.order t230 t230) = some .eq) := by simpa using c6))
      clear c6
      (first | rw [c6b0] | (simp only [i64_w, i32_w]; rw [c6b0]) | skip)
      have H' := asd H
      clear H
      go_wp2
      go_meet
      case rel => exact ⟨_, (true), eqB, H', ⟨by first | omega | exact Nat.le_refl _⟩, ⟨hbw⟩⟩
    · rw [if_neg c6] at H
      have c6b0 : ((FloatKind.f64.format.order t230 t230) != some .eq) = false := by simpa using c6
      (try (have c6b1 : decide ((FloatKind.f64.format.order t230 t230) = some .eq) = true := by simpa using c6))
      (try (have c6b2 : ((FloatKind.f64.format.order t230 t230) == some .eq) = true := by simpa using c6))
      clear c6
      (first | rw [c6b0] | (simp only [i64_w, i32_w]; rw [c6b0]) | skip)
      replace H := Option.bind_eq_some_iff.mp H
      obtain ⟨t231, A70, H⟩ := H
      replace H : (sums_Two.j0 k a0 a1 t230 t231) = some (t230, L) := H
      have A7 := asd A70
      clear A70
      have H' := asd H
      clear H
      go_wp2_with (first | (go_at_call 43; (with_reducible refine (math_IsInf.calls t230 0 t231 _ A7.out).mono ?_); rintro e w' ⟨rfl, ⟨nd, rfl⟩⟩))
      go_meet
      case rel => exact ⟨_, (t231), eqB, H', ⟨by first | omega | exact Nat.le_refl _⟩, ⟨hbw⟩⟩
  case rest =>
    clear HC4 HC5 HA HA1
    try clear c2
    try clear p2
    try clear c3
    try clear c6
    try clear c6b0
    try clear c6b1
    try clear c6b2
    obtain ⟨kq, x20_3, rfl, HA, HJ3, HB⟩ := hcut
    cases kq with
    | zero => exact absurd HA.out (by simp [sums_Two.j0])
    | succ kj3 =>
      have H := HA.out
      clear HA
      simp only [sums_Two.j0] at H
      by_cases c8 : x20_3 = true
      · subst c8
        have H1 : (some (t230, (0 : Nat))) = some (t230, L) := by rw [if_pos rfl] at H; exact H
        clear H
        have H := H1
        clear H1
        simp only [Option.some.injEq, Prod.mk.injEq, true_and] at H
        subst H
        go_wp2
        go_ret2
        exact ⟨_, N1.out.1, N1.out.2, eqC, hbw⟩
      · replace c8 := Bool.eq_false_iff.mpr c8
        subst c8
        have H1 : ((sums_total.f kj3 (([a0, a1] : List Nat))).bind fun bt235 => ((sums_num.f t230).bind fun bt240 => ((dyad_Sub.f kj3 bt235.1 bt235.2.1 bt235.2.2 bt240.1 bt240.2.1 bt240.2.2).bind fun bt245 => ((dyad_Round.f bt245.1 bt245.2.1 bt245.2.2.1 2).bind fun bt252 => (some (t230, bt252.1)))))) = some (t230, L) := by rw [if_neg (show ¬ (false = true) by decide)] at H; exact H
        clear H
        have H := H1
        clear H1
        obtain ⟨y232, hy232⟩ : ∃ y_ : List Nat, y_ = (([a0, a1] : List Nat)) := ⟨_, rfl⟩
        replace H : ((sums_total.f kj3 y232).bind fun bt235 => ((sums_num.f t230).bind fun bt240 => ((dyad_Sub.f kj3 bt235.1 bt235.2.1 bt235.2.2 bt240.1 bt240.2.1 bt240.2.2).bind fun bt245 => ((dyad_Round.f bt245.1 bt245.2.1 bt245.2.2.1 2).bind fun bt252 => (some (t230, bt252.1)))))) = some (t230, L) := by first | (rw [hy232]; with_reducible exact H) | (have H2_ := (Option.bind_some _ _).symm.trans H; rw [hy232]; with_reducible exact H2_) | (have H2_ := (Option.bind_some _ _).symm.trans H; with_reducible exact H2_) | with_reducible exact H | (rw [hy232]; exact H) | exact H
        have Ny232 := asd hy232
        clear hy232
        replace H := Option.bind_eq_some_iff.mp H
        obtain ⟨⟨t235, t236, t239⟩, A90, H⟩ := H
        replace H : ((sums_num.f t230).bind fun bt240 => ((dyad_Sub.f kj3 t235 t236 t239 bt240.1 bt240.2.1 bt240.2.2).bind fun bt245 => ((dyad_Round.f bt245.1 bt245.2.1 bt245.2.2.1 2).bind fun bt252 => (some (t230, bt252.1))))) = some (t230, L) := H
        have A9 := asd A90
        clear A90
        replace H := Option.bind_eq_some_iff.mp H
        obtain ⟨⟨t240, t241, t244⟩, A100, H⟩ := H
        replace H : ((dyad_Sub.f kj3 t235 t236 t239 t240 t241 t244).bind fun bt245 => ((dyad_Round.f bt245.1 bt245.2.1 bt245.2.2.1 2).bind fun bt252 => (some (t230, bt252.1)))) = some (t230, L) := H
        have A10 := asd A100
        clear A100
        replace H := Option.bind_eq_some_iff.mp H
        obtain ⟨⟨t245, t246, t249, t250⟩, A110, H⟩ := H
        replace H : ((dyad_Round.f t245 t246 t249 2).bind fun bt252 => (some (t230, bt252.1))) = some (t230, L) := H
        have A11 := asd A110
        clear A110
        replace H := Option.bind_eq_some_iff.mp H
        obtain ⟨⟨t252, t253⟩, A120, H⟩ := H
        replace H : (some (t230, t252)) = some (t230, L) := H
        have A12 := asd A120
        clear A120
        simp only [Option.some.injEq, Prod.mk.injEq, true_and] at H
        subst H
        go_wp2_with (first | ((with_reducible refine gate_dst (N := 25) rfl ?_); refine Kd.R_lit Kd.float _ 25 ?hg (N := 25) ?hd (xs := ([a0, a1] : List Nat)) (inner := [.float .f64 a0, .float .f64 a1]) (ok := fun _ => True) (okp := fun _ => True) ?hr ?hp (fun _ hk => hk) trivial (Below.refl _ _) (Nat.le_refl _) (by simp) ?_; (case hd => rfl); (case hg => rfl); (case hr => first | (go_simp; done) | (go_simp; rfl)); (case hp => exact (Reps.one (show Kd.M Kd.float _ _ _ a0 [.float .f64 a0] from rfl) (Reps.one (show Kd.M Kd.float _ _ _ a1 [.float .f64 a1] from rfl) (Reps.none _ _)))); intro v233 w13 ho14 hb hg_ hnew_; clear hg_ hnew_; (first | rw [← Ny232.out] at ho14 | (simp only [Int.reduceToNat] at ho14; rw [← Ny232.out] at ho14)); have n0_ := asd (Kd.R_lower ho14 (below_size hbw)); have n1_ := asd (below_step hbw hb); clear HB; have HO234 := n0_; have HB := n1_; clear n0_ n1_; clear hb ho14; obtain ⟨Ao15, co15, eo15⟩ := Kd.R_slice HO234.out; subst eo15) | ((with_reducible refine gate_callee (f := 45) rfl ?_); refine goesL_ (some 26) rfl rfl Tryz.func45 (by kernel_rfl) rfl #[.slice Ao15 y232.length co15] rfl eqA ?_; (with_reducible refine (sums_total.calls kj3 _ _ y232 t235 t236 t239 _ ?side1 ?side2 A9.out).mono ?_); (case side1 => repeat (first | exact (Kd.R_reads' HO234.out).2.2 | (with_reducible refine Kd.C_alloc ?_ _) | (with_reducible refine Kd.C_drewN ?_ _) | (with_reducible refine Kd.C_drew ?_))); (case side2 => exact (Kd.R_reads' HO234.out).2.1); rintro e w16 ⟨v237, rfl, ho0, hb⟩; refine ⟨_, rfl, ?_⟩; have n0_ := asd (Kd.R_below (rUp HO234.out) hb); have n1_ := asd (Kd.R_lower ho0 (below_size hbw)); have n2_ := asd (below_step hbw hb); clear HO234; clear HB; have HO234 := n0_; have HO238 := n1_; have HB := n2_; clear n0_ n1_ n2_; (try clear hb); (try clear ho0)) | ((with_reducible refine gate_callee (f := 46) rfl ?_); refine goesL_ (some 28) rfl rfl Tryz.func46 (by kernel_rfl) rfl #[.float .f64 t230] rfl eqA ?_; (with_reducible refine (sums_num.calls t230 t240 t241 t244 _ A10.out).mono ?_); rintro e w17 ⟨v242, rfl, ho0, hb⟩; refine ⟨_, rfl, ?_⟩; have n0_ := asd (Kd.R_below (rUp HO234.out) hb); have n1_ := asd (Kd.R_elder' (rUp HO238.out) (Kd.R_base ho0) hb); have n2_ := asd (Kd.R_lower (Kd.R_new' ho0 (Kd.R_lt (rUp HO238.out))) (below_size hbw)); have n3_ := asd (below_step hbw hb); clear HO234; clear HO238; clear HB; have HO234 := n0_; have HO238 := n1_; have HO243 := n2_; have HB := n3_; clear n0_ n1_ n2_ n3_; (try clear hb); (try clear ho0); obtain ⟨Ao18, co18, eo18⟩ := Kd.R_slice HO238.out; subst eo18; obtain ⟨Ao19, co19, eo19⟩ := Kd.R_slice HO243.out; subst eo19) | ((with_reducible refine gate_callee (f := 44) rfl ?_); refine goesL_ (some 29) rfl rfl Tryz.func44 (by kernel_rfl) rfl #[.agg #[.bool t235, .slice Ao18 t236.length co18, .int .i64 t239], .agg #[.bool t240, .slice Ao19 t241.length co19, .int .i64 t244]] rfl eqA ?_; (with_reducible refine (dyad_Sub.calls kj3 t235 (fun k_ => some k_ = (.slice Ao18 t236.length co18 : Value).ownBlock) _ _ t236 t239 t240 (fun k_ => some k_ = (.slice Ao19 t241.length co19 : Value).ownBlock) _ _ t241 t244 t245 t246 t249 t250 _ ?side1 ?side2 A11.out).mono ?_); (case side1 => exact Kd.R_V (Kd.R_tight rfl (Kd.R_apart' (HO238.out) (Kd.R_typed HO234.out) (by decide)))); (case side2 => exact Kd.R_V (Kd.R_tight rfl (Kd.R_apart' (HO243.out) (Kd.R_typed HO234.out) (by decide)))); rintro e w20 ⟨v247, rfl, ho0, hb⟩; refine ⟨_, rfl, ?_⟩; have n0_ := asd (Kd.R_below (rUp HO234.out) hb); have n1_ := asd (Kd.R_elder' (rUp HO238.out) (Kd.R_base ho0) hb); have n2_ := asd (Kd.R_elder' (rUp HO243.out) (Kd.R_base ho0) hb); have n3_ := asd (Kd.R_lower (Kd.R_new' (Kd.R_new' (Kd.R_mono (ok' := fun k_ => True) ho0 (fun _ hk_ => trivial)) (Kd.R_lt (rUp HO238.out))) (Kd.R_lt (rUp HO243.out))) (below_size hbw)); have n4_ := asd (below_step hbw hb); clear HO234; clear HO238; clear HO243; clear HB; have HO234 := n0_; have HO238 := n1_; have HO243 := n2_; have HO248 := n3_; have HB := n4_; clear n0_ n1_ n2_ n3_ n4_; (try clear hb); (try clear ho0)) | ((with_reducible refine gate_dst (N := 7) rfl ?_); refine box_event ?hg (N := 7) ?hd (cs := #[.bool false, .slice none 0 0, .int .i64 0]) (t := 60) ?hr ?_; (case hd => rfl); (case hg => rfl); (case hr => first | (go_simp; done) | (go_simp; rfl)); intro gb251 hg w21 hbox hb; have n0_ := asd (Kd.R_below (rUp HO234.out) hb); have n1_ := asd (Kd.R_below (rUp HO238.out) hb); have n2_ := asd (Kd.R_below (rUp HO243.out) hb); have n3_ := asd (Kd.R_below (rUp HO248.out) hb); have n4_ := asd (below_step hbw hb); have n5_ := asd (hbox); have n6_ := asd ((by rw [hg]; exact (below_size hbw) : w.heap.size ≤ gb251)); have n7_ := asd ((by rw [hg]; exact (below_size hbw) : w.heap.size ≤ gb251)); clear HO234; clear HO238; clear HO243; clear HO248; clear HB; have HO234 := n0_; have HO238 := n1_; have HO243 := n2_; have HO248 := n3_; have HB := n4_; have BK251 := n5_; have GW251 := n6_; have GE251 := n7_; clear n0_ n1_ n2_ n3_ n4_ n5_ n6_ n7_; clear hb hbox hg; obtain ⟨hcz22_0, hcz22_1, hcz22_2, hfz22_0, hfz22_1, hfz22_2⟩ := cz3 BK251.out; obtain ⟨Ao23, co23, eo23⟩ := Kd.R_slice HO248.out; subst eo23) | ((with_reducible refine gate_callee (f := 47) rfl ?_); refine goesL_ (some 34) rfl rfl Tryz.func47 (by kernel_rfl) rfl #[.agg #[.bool t245, .slice Ao23 t246.length co23, .int .i64 t249], .int .i64 2] rfl eqA ?_; (with_reducible refine (dyad_Round.calls t245 _ _ t246 t249 2 t252 t253 _ ?side1 ?side2 A12.out).mono ?_); (case side1 => refine (Kd.R_reads' (e := 83) (base := w.heap.size) (ok := fun k_ => ((True ∧ some k_ ≠ (.slice Ao18 t236.length co18 : Value).ownBlock) ∧ some k_ ≠ (.slice Ao19 t241.length co19 : Value).ownBlock)) (n := t246.length) (c := co23) ?_).2.2; exact (by (with_reducible repeat (first | apply Kd.R_alloc | apply Kd.R_drewN | apply Kd.R_drew)); exact (Kd.R_mono (Kd.R_far (p := ⟨gb251, 2, none⟩) (Kd.R_far (p := ⟨gb251, 1, none⟩) (Kd.R_far (p := ⟨gb251, 0, none⟩) (Kd.R_types HO248.out BK251.out (by decide)) (fun _ hk => hk.2) (.bool t245)) (fun _ hk => hk.2) (.slice Ao23 t246.length co23)) (fun _ hk => hk.2) (.int .i64 t249)) (fun _ h_ => h_.1)))); (case side2 => exact (Kd.R_reads' HO248.out).2.1); rintro e w24 ⟨rfl, hb⟩; refine ⟨_, rfl, ?_⟩; have n0_ := asd (Kd.R_below (by (with_reducible repeat (first | apply Kd.R_alloc | apply Kd.R_drewN | apply Kd.R_drew)); exact (Kd.R_mono (Kd.R_far (p := ⟨gb251, 2, none⟩) (Kd.R_far (p := ⟨gb251, 1, none⟩) (Kd.R_far (p := ⟨gb251, 0, none⟩) (Kd.R_types HO234.out BK251.out (by decide)) (fun _ hk => hk.2) (.bool t245)) (fun _ hk => hk.2) (.slice Ao23 t246.length co23)) (fun _ hk => hk.2) (.int .i64 t249)) (fun _ h_ => h_.1))) hb); have n1_ := asd (Kd.R_below (by (with_reducible repeat (first | apply Kd.R_alloc | apply Kd.R_drewN | apply Kd.R_drew)); exact (Kd.R_mono (Kd.R_far (p := ⟨gb251, 2, none⟩) (Kd.R_far (p := ⟨gb251, 1, none⟩) (Kd.R_far (p := ⟨gb251, 0, none⟩) (Kd.R_types HO238.out BK251.out (by decide)) (fun _ hk => hk.2) (.bool t245)) (fun _ hk => hk.2) (.slice Ao23 t246.length co23)) (fun _ hk => hk.2) (.int .i64 t249)) (fun _ h_ => h_.1))) hb); have n2_ := asd (Kd.R_below (by (with_reducible repeat (first | apply Kd.R_alloc | apply Kd.R_drewN | apply Kd.R_drew)); exact (Kd.R_mono (Kd.R_far (p := ⟨gb251, 2, none⟩) (Kd.R_far (p := ⟨gb251, 1, none⟩) (Kd.R_far (p := ⟨gb251, 0, none⟩) (Kd.R_types HO243.out BK251.out (by decide)) (fun _ hk => hk.2) (.bool t245)) (fun _ hk => hk.2) (.slice Ao23 t246.length co23)) (fun _ hk => hk.2) (.int .i64 t249)) (fun _ h_ => h_.1))) hb); have n3_ := asd (Kd.R_below (by (with_reducible repeat (first | apply Kd.R_alloc | apply Kd.R_drewN | apply Kd.R_drew)); exact (Kd.R_mono (Kd.R_far (p := ⟨gb251, 2, none⟩) (Kd.R_far (p := ⟨gb251, 1, none⟩) (Kd.R_far (p := ⟨gb251, 0, none⟩) (Kd.R_types HO248.out BK251.out (by decide)) (fun _ hk => hk.2) (.bool t245)) (fun _ hk => hk.2) (.slice Ao23 t246.length co23)) (fun _ hk => hk.2) (.int .i64 t249)) (fun _ h_ => h_.1))) hb); have n4_ := asd (blk_below (g := gb251) (o := .cells #[.bool t245, .slice Ao23 t246.length co23, .int .i64 t249] 60 (0, 0)) (by (with_reducible repeat (first | refine blk_drewN ?_ _ | refine blk_drew ?_ | refine blk_alloc ?_ _)); refine blk_put (cs := #[.bool t245, .slice Ao23 t246.length co23, .int .i64 0]) ?_ 2 _ rfl; (with_reducible repeat (first | refine blk_drewN ?_ _ | refine blk_drew ?_ | refine blk_alloc ?_ _)); refine blk_put (cs := #[.bool t245, .slice none 0 0, .int .i64 0]) ?_ 1 _ rfl; (with_reducible repeat (first | refine blk_drewN ?_ _ | refine blk_drew ?_ | refine blk_alloc ?_ _)); refine blk_put (cs := #[.bool false, .slice none 0 0, .int .i64 0]) ?_ 0 _ rfl; (with_reducible repeat (first | refine blk_drewN ?_ _ | refine blk_drew ?_ | refine blk_alloc ?_ _)); exact BK251.out) hb); have n5_ := asd (below_step hbs hb); clear HO234; clear HO238; clear HO243; clear HO248; clear BK251; clear HB; have HO234 := n0_; have HO238 := n1_; have HO243 := n2_; have HO248 := n3_; have BK251 := n4_; have HB := n5_; clear n0_ n1_ n2_ n3_ n4_ n5_; (try clear hb)))
        go_ret2
        exact ⟨_, N1.out.1, N1.out.2, eqC, hbs⟩
end Go.Proofs.YthmeocigliephaaGreatDoor.Big
end
section
namespace Go.Proofs.YthmeocigliephaaGreatDoor.Big
open Go.Proofs.YthmeocigliephaaGreatDoor.PSu Go.Proofs.YthmeocigliephaaGreatDoor.Plain
def sureM : List Nat := [4607182418800017408, 6103021453049119613, 4607182418800017408, 15326393489903895421]
theorem sureM_row : rowT sureM = 0 := by decide +kernel
theorem sureM_kept : keptT sureM 0 0 = 4611686018427387904 := by decide +kernel
theorem sureM_halves : halvesT 4 sureM = 0 := by decide +kernel
theorem sureM_sum : sumT 4846369599423283200 4607182418800017408 = 4846369599423283200 := by decide +kernel
theorem sureM_lost : lostT 4846369599423283200 4607182418800017408 = 4607182418800017408 := by decide +kernel
theorem sureM_exact : exactW sureM 2 (canN (sumZ sureM) (-1074)) = (4611686018427387904, 0) := by decide +kernel
theorem sureM_arg : exactW sureM 0 (canN (sumZ sureM) (-1074)) = (0, 1) := by decide +kernel
theorem sureM_fin : ∀ b ∈ sureM, b < 18446744073709551616 := by decide +kernel
theorem sureM_lit (w : World) : Kd.C Kd.float (w.alloc (.cells #[.float .f64 4607182418800017408, .float .f64 6103021453049119613, .float .f64 4607182418800017408, .float .f64 15326393489903895421] 25 (0, 0))) (some ⟨w.heap.size, 0, none⟩) sureM.length sureM := by
  refine Kd.C_of_reads (d := (0 : Nat)) ⟨rfl, by decide, fun _ => ⟨_, rfl, fun j hj => ?_⟩⟩
  have hb := blk_new w (.cells #[.float .f64 4607182418800017408, .float .f64 6103021453049119613, .float .f64 4607182418800017408, .float .f64 15326393489903895421] 25 (0, 0))
  have h4 : j < 4 := hj
  have hc := blk_cell hb
  have : j = 0 ∨ j = 1 ∨ j = 2 ∨ j = 3 := by omega
  rcases this with rfl | rfl | rfl | rfl
  · exact hc 0
  · exact hc 1
  · exact hc 2
  · exact hc 3
theorem sure_rel (w : World) (hL : Laid w) : Calls Tryz.prog 19 #[] w fun e w' => e = .returned (.bool true) ∧ Below w.heap.size w w' := by
  have HL := asd hL
  have B1 := asd ((Below.refl w.heap.size w).alloc (Nat.le_refl _) (.cells #[.float .f64 4607182418800017408, .float .f64 6103021453049119613, .float .f64 4607182418800017408, .float .f64 15326393489903895421] 25 (0, 0)))
  have C1 := asd (sureM_lit w)
  have E1 := asd sureM_exact
  have E2 := asd sureM_arg
  have V1 : (FloatKind.f64.format.order 0 0 == some .eq) = true := by decide +kernel
  have V2 : (FloatKind.f64.format.order 4611686018427387904 4611686018427387904 == some .eq) = true := by decide +kernel
  have V3 : (FloatKind.f64.format.order 4846369599423283200 4846369599423283200 == some .eq) = true := by decide +kernel
  have V4 : (FloatKind.f64.format.order 4607182418800017408 4607182418800017408 == some .eq) = true := by decide +kernel
  have N0 := asd (show nanB (rowT sureM) = false by rw [sureM_row]; decide +kernel)
  have N1 := asd (show nanB (keptT sureM 0 0) = false by rw [sureM_kept]; decide +kernel)
  have N2 := asd (show nanB (halvesT 4 sureM) = false by rw [sureM_halves]; decide +kernel)
  have N3 := asd (show nanB (sumT 4846369599423283200 4607182418800017408) = false by rw [sureM_sum]; decide +kernel)
  have tok1 : True := trivial
  clear hL
  go_enter Tryz.func19, Tryz.ntmps19
  go_wp2_with (first
    | (go_at_call 22; have _t := tok1; refine (exact_list (some ⟨w.heap.size, 0, none⟩) 4 sureM 2 _ C1.out (by decide) (by decide) sureM_fin (HL.out.step B1.out)).mono ?_; rw [E1.out]; rintro e w2 ⟨rfl, d⟩; have B2 := asd (below_post d B1.out); have C2 := asd (Kd.C_below C1.out d); clear d _t tok1)
    | (go_at_call 22; refine (exact_list (some ⟨w.heap.size, 0, none⟩) 4 sureM 0 _ C2.out (by decide) (by decide) sureM_fin (HL.out.step B2.out)).mono ?_; rw [E2.out]; rintro e w3 ⟨rfl, d⟩; have B3 := asd (below_post d B2.out); have C3 := asd (Kd.C_below C2.out d); clear d)
    | (go_at_call 20; refine (two_rel _ _ _ (by decide) (by decide) (HL.out.step B3.out)).mono ?_; rw [sureM_lost]; rintro e w4 ⟨r, h1, _, rfl, d⟩; obtain rfl := (relN_eq h1 N3.out).trans sureM_sum; have B4 := asd (below_post d B3.out); have C4 := asd (Kd.C_below C3.out d); clear d h1)
    | (go_at_call 12; refine (row_rel (some ⟨w.heap.size, 0, none⟩) 4 sureM _ C4.out (by decide) (by decide) sureM_fin (HL.out.step B4.out)).mono ?_; rintro e w5 ⟨r, h1, _, rfl, d⟩; obtain rfl := (relN_eq h1 N0.out).trans sureM_row; have B5 := asd (below_post d B4.out); have C5 := asd (Kd.C_below C4.out d); clear d h1)
    | (go_at_call 16; refine (kept_rel (some ⟨w.heap.size, 0, none⟩) 4 sureM _ C5.out (by decide) (by decide) sureM_fin (HL.out.step B5.out)).mono ?_; rintro e w6 ⟨r, h1, _, rfl, d⟩; obtain rfl := (relN_eq h1 N1.out).trans sureM_kept; have B6 := asd (below_post d B5.out); have C6 := asd (Kd.C_below C5.out d); clear d h1)
    | (go_at_call 14; refine (halves_rel 4 (some ⟨w.heap.size, 0, none⟩) 4 sureM _ ⟨by decide, by decide⟩ C6.out (by decide) sureM_fin (HL.out.step B6.out)).mono ?_; rintro e w7 ⟨r, h1, _, rfl, d⟩; obtain rfl := (relN_eq h1 N2.out).trans sureM_halves; have B7 := asd (below_post d B6.out); clear d h1))
  go_ret
  exact ⟨rfl, B7.out⟩
end Go.Proofs.YthmeocigliephaaGreatDoor.Big
end
section
namespace Go.Proofs.YthmeocigliephaaGreatDoor.Big
open Go.Proofs.YthmeocigliephaaGreatDoor.PSu Go.Proofs.YthmeocigliephaaGreatDoor.Plain Ieee
theorem dot_go (l m : List Nat) (hl : ∀ b ∈ l, Fin64 b) (hm : ∀ b ∈ m, Fin64 b) (hlm : l.length = m.length) (hn : l.length ≤ 65536) (mode : Int) (hmo : 1 ≤ mode ∧ mode ≤ 3) : ∀ (d i : Nat), i + d = l.length →
    Ev (fun k => PSx.sums_Dot.l0 k m mode l (l.length : Int) (i : Int) (canN (dotN l m i) (-2148)).1 (canN (dotN l m i) (-2148)).2.1 (canN (dotN l m i) (-2148)).2.2) (rndE (dotN l m l.length) (-2148) mode, 0)
  | 0, i, h => by
    obtain rfl : i = l.length := by omega
    have hb := dotN_bl hl hm (i := l.length) hn
    refine Ev.step (f := fun _ => some (rndE (dotN l m l.length) (-2148) mode, 0)) (fun k => ?_) (Ev.now _)
    rw [PSx.sums_Dot.l0, if_neg (by omega), round_e (by omega) (by omega) hmo, Option.bind_some]
  | d + 1, i, h => by
    have ha := fin_rd hl i
    have hb := fin_rd hm i
    have b1 : bl (flz (rdOf (0 : Nat) l (i : Int))).natAbs ≤ 2098 := bl_le.2 (flz_lt ha)
    have b2 : bl (flz (rdOf (0 : Nat) m (i : Int))).natAbs ≤ 2098 := bl_le.2 (flz_lt hb)
    have b3 : bl (flz (rdOf (0 : Nat) l (i : Int)) * flz (rdOf (0 : Nat) m (i : Int))).natAbs ≤ 4196 := bl_le.2 (prod_bl ha hb)
    have b4 := dotN_bl hl hm (i := i) (by omega)
    have hw : wrap64 ((i : Int) + 1) = ((i + 1 : Nat) : Int) := (w64_of (by omega) (by omega)).trans (by omega)
    refine Ev.step (f := fun k => PSx.sums_Dot.l0 k m mode l (l.length : Int) ((i + 1 : Nat) : Int) (canN (dotN l m (i + 1)) (-2148)).1 (canN (dotN l m (i + 1)) (-2148)).2.1 (canN (dotN l m (i + 1)) (-2148)).2.2) (fun k => ?_) (dot_go l m hl hm hlm hn mode hmo d (i + 1) (by omega))
    rw [PSx.sums_Dot.l0, if_pos (by omega), if_pos (by omega), if_pos (by omega), num_law ha, Option.bind_some, if_pos (by omega), num_law hb, Option.bind_some,
      dmul_e (by omega) (by omega) (by omega) (by omega) (by omega), Option.bind_some, hw]
    simp only
    rw [show (-1074 : Int) + -1074 = -2148 by omega, dadd_e (by omega) (by omega) (by omega), Option.bind_some]
    rfl
theorem dot_law (l m : List Nat) (hl : ∀ b ∈ l, b < 18446744073709551616) (hm : ∀ b ∈ m, b < 18446744073709551616) (hn : l.length < 4611686018427387904) (hn2 : m.length < 4611686018427387904) (mode : Int) : Ev (fun k => PSx.sums_Dot.f k l m mode) (dotT l m mode) := by
  unfold PSx.sums_Dot.f dotT
  by_cases hmo : 1 ≤ mode ∧ mode ≤ 3
  · by_cases he : l.length = m.length
    · rw [if_pos ⟨hmo, he⟩]
      have hfl : sums_fault.f l m = some (faultT l m) := by unfold sums_fault.f; rw [if_pos ⟨hn, hn2⟩]
      refine Ev.congr (f := fun k => PSx.sums_Dot.j0 k l m mode false) (fun k => ?_) ?_
      · rw [round_yes hmo, Option.bind_some, if_pos rfl, show (((l.length : Int)) != (m.length : Int)) = false by rw [bne_eq_false_iff_eq]; omega]
      by_cases hf : faultT l m = 0
      · rw [if_pos hf]
        have hL : ¬ (65536 < l.length ∨ 65536 < m.length) := by
          intro h
          unfold faultT at hf
          rw [if_pos h] at hf; omega
        have hN : ¬ (l.any nanB = true ∨ m.any nanB = true) := by
          intro h
          unfold faultT at hf
          rw [if_neg hL, if_pos h] at hf; omega
        have hI : ¬ (l.any infB? = true ∨ m.any infB? = true) := by
          intro h
          unfold faultT at hf
          rw [if_neg hL, if_neg hN, if_pos h] at hf; omega
        have g1 := (fault_zero hl (by unfold faultL; rw [if_neg (fun h => hL (.inl h)), if_neg (fun h => hN (.inl h)), if_neg (fun h => hI (.inl h))])).2
        have g2 := (fault_zero hm (by unfold faultL; rw [if_neg (fun h => hL (.inr h)), if_neg (fun h => hN (.inr h)), if_neg (fun h => hI (.inr h))])).2
        refine Ev.step (f := fun k => PSx.sums_Dot.l0 k m mode l (l.length : Int) 0 false [] 0) (fun k => ?_) ?_
        · rw [PSx.sums_Dot.j0, if_neg (by simp), hfl, Option.bind_some, if_pos hf]
        · have := dot_go l m g1 g2 he (by omega) mode hmo l.length 0 (by omega)
          rw [show dotN l m 0 = 0 from rfl, canN_zero] at this
          exact this
      · rw [if_neg hf]
        refine Ev.step (f := fun _ => some ((0 : Nat), faultT l m)) (fun k => ?_) (Ev.now _)
        rw [PSx.sums_Dot.j0, if_neg (by simp), hfl, Option.bind_some, if_neg hf]
    · rw [if_neg (fun h => he h.2)]
      refine Ev.congr (f := fun k => PSx.sums_Dot.j0 k l m mode true) (fun k => ?_) (Ev.step (f := fun _ => some ((0 : Nat), 1)) (fun k => by rw [PSx.sums_Dot.j0, if_pos rfl]) (Ev.now _))
      rw [round_yes hmo, Option.bind_some, if_pos rfl, show (((l.length : Int)) != (m.length : Int)) = true by rw [bne_iff_ne]; omega]
  · rw [if_neg (fun h => hmo h.1)]
    refine Ev.congr (f := fun k => PSx.sums_Dot.j0 k l m mode true) (fun k => ?_) (Ev.step (f := fun _ => some ((0 : Nat), 1)) (fun k => by rw [PSx.sums_Dot.j0, if_pos rfl]) (Ev.now _))
    rw [round_no hmo, Option.bind_some, if_neg (by omega)]
theorem dots_any (A B : Option Addr) (c d : Nat) (l m : List Nat) (mode : Int) (w : World) (hr : Kd.C Kd.float w A l.length l) (hc : l.length ≤ c) (hn : l.length < 17592186044416) (hw : ∀ b ∈ l, b < 18446744073709551616)
    (hr2 : Kd.C Kd.float w B m.length m) (hc2 : m.length ≤ d) (hn2 : m.length < 17592186044416) (hw2 : ∀ b ∈ m, b < 18446744073709551616) (hL : Laid w) :
    Calls Tryz.prog 8 #[.slice A l.length c, .slice B m.length d, .int .i64 mode] w fun e w' => e = .returned (.bool true) ∧ Below w.heap.size w w' := by
  obtain ⟨k1, e1⟩ := Ev.rounds (dot_law l m hw hw2 (by omega) (by omega) mode)
  obtain ⟨k2, e2⟩ := Ev.rounds (rdot_law l m hw hw2 hn mode)
  obtain ⟨⟨t, q⟩, ht⟩ : ∃ p, dotT l m mode = p := ⟨_, rfl⟩
  rw [ht] at e1 e2
  have E1 := asd e1
  have E2 := asd e2
  have S0 := asd (same_law t)
  have hq : (q == q) = true := beq_self_eq_true q
  have HL := asd hL
  have HR := asd hr
  have HC := asd hc
  have HR2 := asd hr2
  have HC2 := asd hc2
  clear e1 e2 hn hn2 hw hw2 hr hc hr2 hc2 hL ht
  go_enter Tryz.func8, Tryz.ntmps8
  go_wp2_with (first
    | (go_at_call 33; refine (PSx.sums_Dot.calls k1 A c l B d m mode t q _ HR.out HC.out HR2.out HC2.out E1.out HL.out).mono ?_; rintro e w1 ⟨rfl, d⟩; have B1 := asd d; clear d)
    | (go_at_call 34; refine (PSd.cuspref05_Dot.calls k2 A c l B d m mode t q _ (Kd.C_below HR.out B1.out) HC.out (Kd.C_below HR2.out B1.out) HC2.out E2.out).mono ?_; rintro e w2 ⟨rfl, d⟩; have B2 := asd (below_post d B1.out); clear d)
    | (go_at_call 11; refine (cusplaw05_same.calls _ _ true _ S0.out).mono ?_; rintro e w3 ⟨rfl, d⟩; have B3 := asd (below_post d.below B2.out); clear d)
    | (go_at_call 19; refine (sure_rel _ (HL.out.step B3.out)).mono ?_; rintro e w4 ⟨rfl, d⟩; have B4 := asd (below_post d B3.out); clear d))
  go_ret
  exact ⟨rfl, B4.out⟩
end Go.Proofs.YthmeocigliephaaGreatDoor.Big
end
