/- The printed functions of the reference (digits, number, name, sign, blank) answer as the plain words say. -/
import Derived.Test.YtdcjgibdfpldgaaLawE
import Derived.Test.YtdcjgibdfpldgaaPLex6
namespace Go.Proofs.Ytdcjgibdfpldgaa
set_option linter.unusedVariables false
set_option linter.unusedSimpArgs false
open Go.RowKit Go.Proofs.Ytdcjgibdfpldgaa.PLex Go.Proofs.YtdcjgibdfpldgaaW.PrintWords

theorem rdigit_f (c : UInt8) : cuspref24_digit.f (c.toNat : Int) = some (isDig c) := digit_f c
theorem rletter_f (c : UInt8) : cuspref24_letter.f (c.toNat : Int) = some (isLet c) := letter_f c

theorem rdigits (s : ByteArray) (hs : s.size ≤ Lim) : ∀ (d i : Nat), s.size - i = d → i ≤ s.size →
    Ev (fun k => cuspref24_digits.f k s (i : Int)) ((i + digs (s.data.toList.drop i) : Nat) : Int)
  | 0, i, hd, hi => by
    refine Ev.step (f := fun _ => some (i : Int)) (fun k => ?_) ?_
    · simp only [cuspref24_digits.f, cuspref24_digits.l0]; rw [if_neg (by omega)]
    · rw [List.drop_of_length_le (by rw [szl]; omega)]; exact Ev.now _
  | d + 1, i, hd, hi => by
    have hlt : i < s.size := by omega
    have hl : i < s.data.toList.length := by rw [szl]; exact hlt
    have hs' := hs
    unfold Lim at hs'
    have W : wrap64 ((i : Int) + 1) = ((i + 1 : Nat) : Int) := by rw [w64] <;> omega
    have e : s.data.toList.drop i = s.data.toList[i] :: s.data.toList.drop (i + 1) := List.drop_eq_getElem_cons hl
    have ih := rdigits s hs d (i + 1) (by omega) (by omega)
    by_cases h1 : isDig s.data.toList[i] = true
    · refine Ev.step (f := fun k => cuspref24_digits.f k s ((i + 1 : Nat) : Int)) (fun k => ?_) ?_
      · simp only [cuspref24_digits.f, cuspref24_digits.l0]; rw [if_pos (by omega), if_pos (by omega), bt_eq s i hl, rdigit_f, h1, Option.bind_some, if_pos rfl, W]
      · rw [e, digs_cons, if_pos h1, show i + (digs (s.data.toList.drop (i + 1)) + 1) = i + 1 + digs (s.data.toList.drop (i + 1)) by omega]; exact ih
    · refine Ev.step (f := fun _ => some (i : Int)) (fun k => ?_) ?_
      · simp only [cuspref24_digits.f, cuspref24_digits.l0]; rw [if_pos (by omega), if_pos (by omega), bt_eq s i hl, rdigit_f, Option.bind_some, if_neg h1]
      · rw [e, digs_cons, if_neg h1]; exact Ev.now _
theorem rdig (s : ByteArray) (hs : s.size ≤ Lim) (i : Nat) (hi : i ≤ s.size) : Ev (fun k => cuspref24_digits.f k s (i : Int)) ((i + digs (s.data.toList.drop i) : Nat) : Int) := rdigits s hs _ i rfl hi

theorem rnumber_j3 (s : ByteArray) (hs : s.size ≤ Lim) (p n a m : Nat) (hp : p ≤ a) (ha : a + 1 = m) (hm : m ≤ s.size) (b : Bool) (hb : b = true → m < s.size) :
    Ev (fun k => cuspref24_number.j3 k s (p : Int) (n : Int) (a : Int) (m : Int) b)
      (((a - p + (if b = true then (if digs (s.data.toList.drop (m + 1)) > 0 then digs (s.data.toList.drop (m + 1)) + 2 else 0) else (if digs (s.data.toList.drop m) > 0 then digs (s.data.toList.drop m) + 1 else 0)) : Nat) : Int), (n : Int)) := by
  have hs' := hs
  unfold Lim at hs'
  cases b with
  | true =>
    have hm2 := hb rfl
    have W : wrap64 ((m : Int) + 1) = ((m + 1 : Nat) : Int) := by rw [w64] <;> omega
    refine Ev.step (f := fun k => (cuspref24_digits.f k s ((m + 1 : Nat) : Int)).bind fun t => if t > ((m + 1 : Nat) : Int) then some (wrap64 (t - p), (n : Int)) else some (wrap64 ((a : Int) - p), (n : Int))) (fun k => ?_) ?_
    · simp only [cuspref24_number.j3]; rw [if_pos trivial, W]
    · refine Ev.bind (rdig s hs (m + 1) (by omega)) ?_
      have hle := digs_drop_le s.data.toList (m + 1)
      rw [szl] at hle
      rw [if_pos rfl]
      by_cases h : digs (s.data.toList.drop (m + 1)) > 0
      · rw [if_pos h]
        refine Ev.congr (f := fun _ => some (((a - p + (digs (s.data.toList.drop (m + 1)) + 2) : Nat) : Int), (n : Int))) (fun k => ?_) (Ev.now _)
        rw [if_pos (by omega), w64 (by omega) (by omega)]; congr 2; omega
      · rw [if_neg h]
        refine Ev.congr (f := fun _ => some (((a - p : Nat) : Int), (n : Int))) (fun k => ?_) (Ev.now _)
        rw [if_neg (by omega), w64 (by omega) (by omega)]; congr 2; omega
  | false =>
    refine Ev.step (f := fun k => (cuspref24_digits.f k s (m : Int)).bind fun t => if t > (m : Int) then some (wrap64 (t - p), (n : Int)) else some (wrap64 ((a : Int) - p), (n : Int))) (fun k => ?_) ?_
    · simp only [cuspref24_number.j3]; rw [if_neg (by simp)]
    · refine Ev.bind (rdig s hs m (by omega)) ?_
      have hle := digs_drop_le s.data.toList m
      rw [szl] at hle
      rw [if_neg (show ¬ (false = true) by simp)]
      by_cases h : digs (s.data.toList.drop m) > 0
      · rw [if_pos h]
        refine Ev.congr (f := fun _ => some (((a - p + (digs (s.data.toList.drop m) + 1) : Nat) : Int), (n : Int))) (fun k => ?_) (Ev.now _)
        rw [if_pos (by omega), w64 (by omega) (by omega)]; congr 2; omega
      · rw [if_neg h]
        refine Ev.congr (f := fun _ => some (((a - p : Nat) : Int), (n : Int))) (fun k => ?_) (Ev.now _)
        rw [if_neg (by omega), w64 (by omega) (by omega)]; congr 2; omega

theorem rnumber_j1 (s : ByteArray) (hs : s.size ≤ Lim) (p a c : Nat) (hp : p ≤ a) (ha : a ≤ s.size) :
    Ev (fun k => cuspref24_number.j1 k s (p : Int) (c : Int) (a : Int)) (if c = 0 then (0, 0) else (((a - p + expo (s.data.toList.drop a) : Nat) : Int), (c : Int))) := by
  have hs' := hs
  unfold Lim at hs'
  by_cases hc : c = 0
  · refine Ev.step (f := fun _ => some (0, 0)) (fun k => by simp only [cuspref24_number.j1]; rw [if_pos (by omega)]) ?_
    rw [if_pos hc]; exact Ev.now _
  rw [if_neg hc]
  have NO : Ev (fun k => cuspref24_number.j2 k s (p : Int) (c : Int) (a : Int) false) (((a - p + 0 : Nat) : Int), (c : Int)) :=
    Ev.step (f := fun _ => some (((a - p + 0 : Nat) : Int), (c : Int))) (fun k => by
      simp only [cuspref24_number.j2]; rw [if_neg (by simp), w64 (by omega) (by omega)]; congr 2; omega) (Ev.now _)
  by_cases hlt : a < s.size
  · have hl : a < s.data.toList.length := by rw [szl]; exact hlt
    have hd : (s.data.toList.drop a).head? = some (s.data.toList[a]'hl) := head_drop _ _ hl
    by_cases he : s.data.toList[a] = 101 ∨ s.data.toList[a] = 69
    · have W : wrap64 ((a : Int) + 1) = ((a + 1 : Nat) : Int) := by rw [w64] <;> omega
      have e1 : expo (s.data.toList.drop a) = (if (s.data.toList.drop (a + 1)).head? = some 43 ∨ (s.data.toList.drop (a + 1)).head? = some 45 then (if digs (s.data.toList.drop (a + 2)) > 0 then digs (s.data.toList.drop (a + 2)) + 2 else 0)
          else (if digs (s.data.toList.drop (a + 1)) > 0 then digs (s.data.toList.drop (a + 1)) + 1 else 0)) := by
        unfold expo; rw [if_pos (by rw [hd]; simpa using he), List.drop_drop, List.drop_drop]
      refine Ev.step (f := fun k => cuspref24_number.j2 k s (p : Int) (c : Int) (a : Int) true) (fun k => ?_) ?_
      · simp only [cuspref24_number.j1]; rw [if_neg (by omega), if_pos (by omega), if_pos (by omega), bt_eq s a hl]
        rcases he with he | he <;> rw [he] <;> rfl
      · by_cases h2 : a + 1 < s.size
        · have hl2 : a + 1 < s.data.toList.length := by rw [szl]; exact h2
          have hd2 : (s.data.toList.drop (a + 1)).head? = some (s.data.toList[a + 1]'hl2) := head_drop _ _ hl2
          by_cases hg : s.data.toList[a + 1] = 43 ∨ s.data.toList[a + 1] = 45
          · refine Ev.step (f := fun k => cuspref24_number.j3 k s (p : Int) (c : Int) (a : Int) ((a + 1 : Nat) : Int) true) (fun k => ?_) ?_
            · simp only [cuspref24_number.j2]; rw [if_pos trivial, W, if_pos (by omega), if_pos (by omega), bt_eq s (a + 1) hl2]
              rcases hg with hg | hg <;> rw [hg] <;> rfl
            · have := rnumber_j3 s hs p c a (a + 1) hp rfl (by omega) true (fun _ => h2)
              rw [e1, if_pos (by rw [hd2]; simpa using hg)]
              rw [if_pos rfl] at this; exact this
          · refine Ev.step (f := fun k => cuspref24_number.j3 k s (p : Int) (c : Int) (a : Int) ((a + 1 : Nat) : Int) false) (fun k => ?_) ?_
            · simp only [cuspref24_number.j2]; rw [if_pos trivial, W, if_pos (by omega), if_pos (by omega), bt_eq s (a + 1) hl2]
              have n1 : ¬ ((s.data.toList[a + 1].toNat : Int) = 43) := fun h => hg (.inl (u8_lit.mp h))
              have n2 : ¬ ((s.data.toList[a + 1].toNat : Int) = 45) := fun h => hg (.inr (u8_lit.mp h))
              rw [if_neg n1, beq_eq_false_iff_ne.mpr n2]
            · have := rnumber_j3 s hs p c a (a + 1) hp rfl (by omega) false (by simp)
              rw [e1, if_neg (by rw [hd2]; simpa using hg)]
              rw [if_neg (by simp)] at this; exact this
        · refine Ev.step (f := fun k => cuspref24_number.j3 k s (p : Int) (c : Int) (a : Int) ((a + 1 : Nat) : Int) false) (fun k => ?_) ?_
          · simp only [cuspref24_number.j2]; rw [if_pos trivial, W, if_neg (by omega)]
          · have := rnumber_j3 s hs p c a (a + 1) hp rfl (by omega) false (by simp)
            rw [e1, if_neg (by rw [List.drop_of_length_le (by rw [szl]; omega)]; simp)]
            rw [if_neg (by simp)] at this; exact this
    · refine Ev.step (f := fun k => cuspref24_number.j2 k s (p : Int) (c : Int) (a : Int) false) (fun k => ?_) ?_
      · simp only [cuspref24_number.j1]; rw [if_neg (by omega), if_pos (by omega), if_pos (by omega), bt_eq s a hl]
        have n1 : ¬ ((s.data.toList[a].toNat : Int) = 101) := fun h => he (.inl (u8_lit.mp h))
        have n2 : ¬ ((s.data.toList[a].toNat : Int) = 69) := fun h => he (.inr (u8_lit.mp h))
        rw [if_neg n1, beq_eq_false_iff_ne.mpr n2]
      · have e1 : expo (s.data.toList.drop a) = 0 := by unfold expo; rw [if_neg (by rw [hd]; simpa using he)]
        rw [e1]; exact NO
  · refine Ev.step (f := fun k => cuspref24_number.j2 k s (p : Int) (c : Int) (a : Int) false) (fun k => ?_) ?_
    · simp only [cuspref24_number.j1]; rw [if_neg (by omega), if_neg (by omega)]
    · have e1 : expo (s.data.toList.drop a) = 0 := by unfold expo; rw [List.drop_of_length_le (by rw [szl]; omega), if_neg (by simp)]
      rw [e1]; exact NO

theorem rj0_no (s : ByteArray) (p x6 x7 x8 : Int) (k : Nat) : cuspref24_number.j0 (k + 1) s p x6 x7 x8 false = cuspref24_number.j1 k s p x7 x8 := by
  simp only [cuspref24_number.j0]; rw [if_neg (by simp)]

theorem rnumber_dot {r : Int × Int} (s : ByteArray) (hs : s.size ≤ Lim) (p d e q : Nat) (hq : p + d = q) (hl : q < s.size) (he : digs (s.data.toList.drop (q + 1)) = e) (hle : e ≤ s.size - (q + 1)) (hz : d + e ≠ 0)
    (J : Ev (fun k => cuspref24_number.j1 k s (p : Int) ((d + e : Nat) : Int) ((q + 1 + e : Nat) : Int)) r) : Ev (fun k => cuspref24_number.j0 k s (p : Int) (q : Int) (d : Int) (q : Int) true) r := by
  have R2 := rdig s hs (q + 1) (by omega)
  rw [he] at R2
  unfold Lim at hs
  have W : wrap64 ((q : Int) + 1) = ((q + 1 : Nat) : Int) := by rw [w64] <;> omega
  have W2 : wrap64 ((wrap64 ((wrap64 ((d : Int) + ((q + 1 + e : Nat) : Int))) - (q : Int))) - 1) = ((d + e : Nat) : Int) := by
    rw [w64 (x := (d : Int) + ((q + 1 + e : Nat) : Int)) (by omega) (by omega), w64 (x := (d : Int) + ((q + 1 + e : Nat) : Int) - (q : Int)) (by omega) (by omega), w64 (by omega) (by omega)]; omega
  refine Ev.step (fun k => by simp only [cuspref24_number.j0]; rw [if_pos trivial, W]) (Ev.bind R2 ?_)
  rw [W2]
  by_cases h1 : (d : Int) > 0
  · refine Ev.congr (fun k => ?_) J
    exact if_pos h1
  · refine Ev.congr (fun k => ?_) J
    rw [if_neg h1]; exact if_pos (by omega)
theorem rnumber_dot0 {r : Int × Int} (s : ByteArray) (hs : s.size ≤ Lim) (p q : Nat) (hq : p = q) (hl : q < s.size) (he : digs (s.data.toList.drop (q + 1)) = 0)
    (J : Ev (fun k => cuspref24_number.j1 k s (p : Int) 0 (q : Int)) r) : Ev (fun k => cuspref24_number.j0 k s (p : Int) (q : Int) 0 (q : Int) true) r := by
  have R2 := rdig s hs (q + 1) (by omega)
  rw [he] at R2
  unfold Lim at hs
  have W : wrap64 ((q : Int) + 1) = ((q + 1 : Nat) : Int) := by rw [w64] <;> omega
  refine Ev.step (fun k => by simp only [cuspref24_number.j0]; rw [if_pos trivial, W]) (Ev.bind R2 ?_)
  refine Ev.congr (fun k => ?_) J
  rw [if_neg (show ¬ ((0 : Int) > 0) by omega)]; exact if_neg (by omega)

theorem rnumber (s : ByteArray) (hs : s.size ≤ Lim) (p : Nat) (hp : p ≤ s.size) :
    Ev (fun k => cuspref24_number.f k s (p : Int)) (((num (s.data.toList.drop p)).1 : Int), ((num (s.data.toList.drop p)).2 : Int)) := by
  have hs' := hs
  unfold Lim at hs'
  have hn := digs_drop_le s.data.toList p
  rw [szl] at hn
  obtain ⟨d, hd⟩ : ∃ d, digs (s.data.toList.drop p) = d := ⟨_, rfl⟩
  have R := rdig s hs p hp
  rw [hd] at R hn
  unfold cuspref24_number.f
  refine Ev.bind R ?_
  have FIN := num_fin (s.data.toList.drop p)
  have M : mant (s.data.toList.drop p) = if (s.data.toList.drop (p + d)).head? = some 46 then
    if d + digs (s.data.toList.drop (p + d + 1)) = 0 then (0, 0) else (d + (digs (s.data.toList.drop (p + d + 1)) + 1), d + digs (s.data.toList.drop (p + d + 1)))
    else (d, d) := by unfold mant; rw [hd, List.drop_drop, List.drop_drop, Nat.add_assoc]
  have W0 : wrap64 (((p + d : Nat) : Int) - (p : Int)) = (d : Int) := by rw [w64] <;> omega
  have J := rnumber_j1 s hs p
  have J' : ∀ a c : Nat, p ≤ a → a ≤ s.size → mant (s.data.toList.drop p) = (a - p, c) → Ev (fun k => cuspref24_number.j1 k s (p : Int) (c : Int) (a : Int)) (((num (s.data.toList.drop p)).1 : Int), ((num (s.data.toList.drop p)).2 : Int)) := by
    intro a c h1 h2 h3
    have := FIN _ _ h3
    rw [List.drop_drop, show p + (a - p) = a by omega] at this
    rw [← this]; exact J a c h1 h2
  by_cases hlt : p + d < s.size
  · have hl : p + d < s.data.toList.length := by rw [szl]; exact hlt
    have hh : (s.data.toList.drop (p + d)).head? = some (s.data.toList[p + d]'hl) := head_drop _ _ hl
    by_cases hpt : s.data.toList[p + d] = 46
    · refine Ev.congr (f := fun k => cuspref24_number.j0 k s (p : Int) ((p + d : Nat) : Int) (d : Int) ((p + d : Nat) : Int) true) (fun k => ?_) ?_
      · rw [if_pos (by omega), if_pos (by omega), bt_eq s _ hl, hpt, b46, W0]
      · rw [if_pos (by rw [hh, hpt])] at M
        obtain ⟨e, he⟩ : ∃ e, digs (s.data.toList.drop (p + d + 1)) = e := ⟨_, rfl⟩
        have hle := digs_drop_le s.data.toList (p + d + 1)
        rw [szl, he] at hle
        rw [he] at M
        by_cases hz : d + e = 0
        · rw [if_pos hz] at M
          obtain rfl : d = 0 := by omega
          obtain rfl : e = 0 := by omega
          exact rnumber_dot0 s hs p (p + 0) rfl hlt he (J' (p + 0) 0 (by omega) (by omega) (by rw [M]; simp))
        · rw [if_neg hz] at M
          exact rnumber_dot s hs p d e (p + d) rfl hlt he hle hz (J' (p + d + 1 + e) (d + e) (by omega) (by omega) (by rw [M, show p + d + 1 + e - p = d + (e + 1) by omega]))
    · refine Ev.congr (f := fun k => cuspref24_number.j0 k s (p : Int) ((p + d : Nat) : Int) (d : Int) ((p + d : Nat) : Int) false) (fun k => ?_) ?_
      · rw [if_pos (by omega), if_pos (by omega), bt_eq s _ hl, W0]
        have n1 : ¬ ((s.data.toList[p + d].toNat : Int) = 46) := fun h => hpt (u8_lit.mp h)
        rw [beq_eq_false_iff_ne.mpr n1]
      · rw [if_neg (by rw [hh]; simpa using hpt)] at M
        exact Ev.step (f := fun k => cuspref24_number.j1 k s p (d : Int) ((p + d : Nat) : Int)) (fun k => rj0_no _ _ _ _ _ k) (J' _ _ (by omega) (by omega) (by rw [M, show p + d - p = d by omega]))
  · refine Ev.congr (f := fun k => cuspref24_number.j0 k s (p : Int) ((p + d : Nat) : Int) (d : Int) ((p + d : Nat) : Int) false) (fun k => ?_) ?_
    · rw [if_neg (by omega), W0]
    · rw [if_neg (by rw [List.drop_of_length_le (by rw [szl]; omega)]; simp)] at M
      exact Ev.step (f := fun k => cuspref24_number.j1 k s p (d : Int) ((p + d : Nat) : Int)) (fun k => rj0_no _ _ _ _ _ k) (J' _ _ (by omega) (by omega) (by rw [M, show p + d - p = d by omega]))
end Go.Proofs.Ytdcjgibdfpldgaa
