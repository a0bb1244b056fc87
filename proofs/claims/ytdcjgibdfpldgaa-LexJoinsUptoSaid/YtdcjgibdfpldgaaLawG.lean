/- The printed functions of the reference (name, sign, blank, Tokens) answer as the plain words say. -/
import Derived.Test.YtdcjgibdfpldgaaLawF
namespace Go.Proofs.Ytdcjgibdfpldgaa
set_option linter.unusedVariables false
set_option linter.unusedSimpArgs false
open Go.RowKit Go.Proofs.Ytdcjgibdfpldgaa.PLex Go.Proofs.YtdcjgibdfpldgaaW.PrintWords

theorem rname_l0 (s : ByteArray) (hs : s.size ≤ 140737488351232) (p : Nat) : ∀ (d i : Nat), s.size - i = d → p ≤ i → i ≤ s.size →
    Ev (fun k => cuspref24_name.l0 k s (p : Int) (i : Int)) ((i - p + ((s.data.toList.drop i).takeWhile isLD).length : Nat) : Int)
  | 0, i, hd, hp, hi => by
    refine Ev.step (f := fun _ => some ((i - p : Nat) : Int)) (fun k => ?_) ?_
    · simp only [cuspref24_name.l0]; rw [if_neg (by omega), w64 (by omega) (by omega)]; congr 1; omega
    · rw [List.drop_of_length_le (by rw [szl]; omega)]; exact Ev.now _
  | d + 1, i, hd, hp, hi => by
    have hlt : i < s.size := by omega
    have hl : i < s.data.toList.length := by rw [szl]; exact hlt
    have W : wrap64 ((i : Int) + 1) = ((i + 1 : Nat) : Int) := by rw [w64] <;> omega
    have e : s.data.toList.drop i = s.data.toList[i] :: s.data.toList.drop (i + 1) := List.drop_eq_getElem_cons hl
    have ih := rname_l0 s hs p d (i + 1) (by omega) (by omega) (by omega)
    by_cases h1 : isLet s.data.toList[i] = true
    · refine Ev.step (f := fun k => cuspref24_name.l0 k s (p : Int) ((i + 1 : Nat) : Int)) (fun k => ?_) ?_
      · simp only [cuspref24_name.l0]; rw [if_pos (by omega), if_pos (by omega), bt_eq s i hl, rletter_f, h1, Option.bind_some, if_pos rfl, W]
      · rw [e, List.takeWhile_cons, if_pos (ld1 h1), List.length_cons, show i - p + (((s.data.toList.drop (i + 1)).takeWhile isLD).length + 1) = i + 1 - p + ((s.data.toList.drop (i + 1)).takeWhile isLD).length by omega]; exact ih
    · have h1' : isLet s.data.toList[i] = false := by simpa using h1
      by_cases h2 : isDig s.data.toList[i] = true
      · refine Ev.step (f := fun k => cuspref24_name.l0 k s (p : Int) ((i + 1 : Nat) : Int)) (fun k => ?_) ?_
        · simp only [cuspref24_name.l0]; rw [if_pos (by omega), if_pos (by omega), bt_eq s i hl, rletter_f, h1', Option.bind_some, if_neg (by simp), rdigit_f, h2, Option.bind_some, if_pos rfl, W]
        · rw [e, List.takeWhile_cons, if_pos (ld2 h2), List.length_cons, show i - p + (((s.data.toList.drop (i + 1)).takeWhile isLD).length + 1) = i + 1 - p + ((s.data.toList.drop (i + 1)).takeWhile isLD).length by omega]; exact ih
      · have h2' : isDig s.data.toList[i] = false := by simpa using h2
        refine Ev.step (f := fun _ => some ((i - p : Nat) : Int)) (fun k => ?_) ?_
        · simp only [cuspref24_name.l0]; rw [if_pos (by omega), if_pos (by omega), bt_eq s i hl, rletter_f, h1', Option.bind_some, if_neg (by simp), rdigit_f, h2', Option.bind_some, if_neg (by simp), w64 (by omega) (by omega)]; congr 1; omega
        · rw [e, List.takeWhile_cons, if_neg (ld3 h1' h2')]; exact Ev.now _

theorem rname (s : ByteArray) (hs : s.size ≤ Lim) (p : Nat) (hp : p ≤ s.size) : Ev (fun k => cuspref24_name.f k s (p : Int)) (nm (s.data.toList.drop p) : Int) := by
  unfold Lim at hs
  have J0 : Ev (fun k => cuspref24_name.j0 k s (p : Int) true) 0 := Ev.step (f := fun _ => some 0) (fun k => by simp only [cuspref24_name.j0]; rw [if_pos trivial]) (Ev.now _)
  by_cases h : p < s.size
  · have hl : p < s.data.toList.length := by rw [szl]; exact h
    have e : s.data.toList.drop p = s.data.toList[p] :: s.data.toList.drop (p + 1) := List.drop_eq_getElem_cons hl
    refine Ev.congr (f := fun k => cuspref24_name.j0 k s (p : Int) (!isLet s.data.toList[p])) (fun k => ?_) ?_
    · unfold cuspref24_name.f; rw [if_neg (by omega), if_pos (by omega), if_pos (by omega), bt_eq s p hl, rletter_f, Option.bind_some]
    · rw [e]; simp only [nm]
      by_cases h1 : isLet s.data.toList[p] = true
      · rw [h1, if_pos rfl]
        refine Ev.step (f := fun k => cuspref24_name.l0 k s (p : Int) (p : Int)) (fun k => by simp only [cuspref24_name.j0]; rw [if_neg (by simp)]) ?_
        have := rname_l0 s hs p (s.size - p) p rfl (Nat.le_refl _) hp
        rw [e, List.takeWhile_cons, if_pos (ld1 h1), List.length_cons, Nat.sub_self, Nat.zero_add] at this
        exact this
      · have h1' : isLet s.data.toList[p] = false := by simpa using h1
        rw [h1', if_neg (by simp)]; exact J0
  · rw [List.drop_of_length_le (by rw [szl]; omega)]
    refine Ev.congr (f := fun k => cuspref24_name.j0 k s (p : Int) true) (fun k => by unfold cuspref24_name.f; rw [if_pos (by omega)]) J0

theorem rsign_l0 (c : UInt8) : ∀ (d i : Nat), 12 - i = d → i ≤ 12 → Ev (fun k => cuspref24_sign.l0 k (c.toNat : Int) (i : Int)) ((signs.drop i).contains c)
  | 0, i, hd, hi => by
    obtain rfl : i = 12 := by omega
    exact Ev.step (f := fun _ => some false) (fun k => by simp only [cuspref24_sign.l0]; rw [if_neg (by omega)]) (Ev.now _)
  | d + 1, i, hd, hi => by
    have hl : i < signs.length := by show i < 12; omega
    have hb : bt (⟨#[43, 45, 42, 47, 94, 40, 41, 44, 91, 93, 61, 126]⟩ : ByteArray) (i : Int) = (signs[i].toNat : Int) := bt_eq (⟨#[43, 45, 42, 47, 94, 40, 41, 44, 91, 93, 61, 126]⟩ : ByteArray) i hl
    have e : signs.drop i = signs[i] :: signs.drop (i + 1) := List.drop_eq_getElem_cons hl
    have W : wrap64 ((i : Int) + 1) = ((i + 1 : Nat) : Int) := by rw [w64] <;> omega
    by_cases h : signs[i] = c
    · refine Ev.step (f := fun _ => some true) (fun k => ?_) ?_
      · simp only [cuspref24_sign.l0]; rw [if_pos (by omega), if_pos (by omega), hb, if_pos (by rw [h])]
      · rw [e, List.contains_cons, h]; simp only [BEq.rfl, Bool.true_or]; exact Ev.now _
    · refine Ev.step (f := fun k => cuspref24_sign.l0 k (c.toNat : Int) ((i + 1 : Nat) : Int)) (fun k => ?_) ?_
      · simp only [cuspref24_sign.l0]; rw [if_pos (by omega), if_pos (by omega), hb, if_neg (fun hh => h (u8_lit.mp hh)), W]
      · rw [e, List.contains_cons, show (c == signs[i]) = false by simpa using fun hh => h hh.symm, Bool.false_or]
        exact rsign_l0 c d (i + 1) (by omega) (by omega)
theorem rsign (c : UInt8) : Ev (fun k => cuspref24_sign.f k (c.toNat : Int)) (isSign c) := rsign_l0 c 12 0 rfl (by omega)

theorem rblank_ev (s : ByteArray) (hs : s.size ≤ 140737488351232) : ∀ (d i : Nat), s.size - i = d → i ≤ s.size →
    (Ev (fun k => cuspref24_blank.l0 k s (i : Int)) ((i + blk false (s.data.toList.drop i) : Nat) : Int)) ∧ (Ev (fun k => cuspref24_blank.l1 k s (i : Int)) ((i + blk true (s.data.toList.drop i) : Nat) : Int))
  | 0, i, hd, hi => by
    have e : s.data.toList.drop i = [] := List.drop_of_length_le (by rw [szl]; omega)
    have A : Ev (fun k => cuspref24_blank.l0 k s (i : Int)) (i : Int) := Ev.step (f := fun _ => some (i : Int)) (fun k => by simp only [cuspref24_blank.l0]; rw [if_neg (by omega)]) (Ev.now _)
    rw [e]
    exact ⟨A, Ev.step (f := fun k => cuspref24_blank.l0 k s (i : Int)) (fun k => by simp only [cuspref24_blank.l1]; rw [if_neg (by omega)]) A⟩
  | d + 1, i, hd, hi => by
    have hlt : i < s.size := by omega
    have hl : i < s.data.toList.length := by rw [szl]; exact hlt
    have W : wrap64 ((i : Int) + 1) = ((i + 1 : Nat) : Int) := by rw [w64] <;> omega
    have e : s.data.toList.drop i = s.data.toList[i] :: s.data.toList.drop (i + 1) := List.drop_eq_getElem_cons hl
    obtain ⟨ih0, ih1⟩ := rblank_ev s hs d (i + 1) (by omega) (by omega)
    obtain ⟨c, hc⟩ : ∃ c, s.data.toList[i] = c := ⟨_, rfl⟩
    have hb := bt_eq s i hl
    rw [hc] at e hb
    have JT : ∀ x : Int, Ev (fun k => cuspref24_blank.j1 k s (i : Int) x true) ((i + 1 + blk false (s.data.toList.drop (i + 1)) : Nat) : Int) := fun x =>
      Ev.step (f := fun k => cuspref24_blank.l0 k s ((i + 1 : Nat) : Int)) (fun k => by simp only [cuspref24_blank.j1]; rw [if_pos trivial, W]) ih0
    have L1 : Ev (fun k => cuspref24_blank.l1 k s (i : Int)) (if c = 10 then ((i + 1 + blk false (s.data.toList.drop (i + 1)) : Nat) : Int) else ((i + 1 + blk true (s.data.toList.drop (i + 1)) : Nat) : Int)) → Ev (fun k => cuspref24_blank.l1 k s (i : Int)) ((i + blk true (s.data.toList.drop i) : Nat) : Int) := by
      intro h; rw [e]; simp only [blk]
      by_cases h10 : c = 10
      · rw [if_pos h10] at h ⊢; rw [show i + (blk false (s.data.toList.drop (i + 1)) + 1) = i + 1 + blk false (s.data.toList.drop (i + 1)) by omega]; exact h
      · rw [if_neg h10] at h ⊢; rw [show i + (blk true (s.data.toList.drop (i + 1)) + 1) = i + 1 + blk true (s.data.toList.drop (i + 1)) by omega]; exact h
    have ne : ∀ d : UInt8, c ≠ d → ¬ ((c.toNat : Int) = (d.toNat : Int)) := fun d h hh => h (u8_lit.mp hh)
    by_cases hbl : c = 9 ∨ c = 10 ∨ c = 13 ∨ c = 32
    · have G0 : Ev (fun k => cuspref24_blank.l0 k s (i : Int)) ((i + 1 + blk false (s.data.toList.drop (i + 1)) : Nat) : Int) := by
        refine Ev.step (f := fun k => cuspref24_blank.j1 k s (i : Int) (c.toNat : Int) true) (fun k => ?_) (JT _)
        simp only [cuspref24_blank.l0]; rw [if_pos (by omega), if_pos (by omega), hb]
        rcases hbl with h | h | h | h <;> rw [h] <;> rfl
      refine ⟨?_, L1 ?_⟩
      · rw [e]; simp only [blk]; rw [if_pos hbl, show i + (blk false (s.data.toList.drop (i + 1)) + 1) = i + 1 + blk false (s.data.toList.drop (i + 1)) by omega]; exact G0
      · by_cases h10 : c = 10
        · rw [if_pos h10]
          exact Ev.step (f := fun k => cuspref24_blank.l0 k s (i : Int)) (fun k => by simp only [cuspref24_blank.l1]; rw [if_pos (by omega), if_pos (by omega), hb, if_pos (by rw [h10]; rfl)]) G0
        · rw [if_neg h10]
          exact Ev.step (f := fun k => cuspref24_blank.l1 k s ((i + 1 : Nat) : Int)) (fun k => by simp only [cuspref24_blank.l1]; rw [if_pos (by omega), if_pos (by omega), hb, if_neg (show ¬ ((c.toNat : Int) = 10) from ne 10 h10), W]) ih1
    · have h9 : c ≠ 9 := fun h => hbl (.inl h)
      have h10 : c ≠ 10 := fun h => hbl (.inr (.inl h))
      have h13 : c ≠ 13 := fun h => hbl (.inr (.inr (.inl h)))
      have h32 : c ≠ 32 := fun h => hbl (.inr (.inr (.inr h)))
      have G1 : Ev (fun k => cuspref24_blank.l1 k s (i : Int)) ((i + 1 + blk true (s.data.toList.drop (i + 1)) : Nat) : Int) :=
        Ev.step (f := fun k => cuspref24_blank.l1 k s ((i + 1 : Nat) : Int)) (fun k => by simp only [cuspref24_blank.l1]; rw [if_pos (by omega), if_pos (by omega), hb, if_neg (show ¬ ((c.toNat : Int) = 10) from ne 10 h10), W]) ih1
      have S : ∀ r, Ev (fun k => cuspref24_blank.j1 k s (i : Int) (c.toNat : Int) false) r → Ev (fun k => cuspref24_blank.l0 k s (i : Int)) r := fun r hr => by
        refine Ev.step (fun k => ?_) hr
        simp only [cuspref24_blank.l0]; rw [if_pos (by omega), if_pos (by omega), hb, if_neg (show ¬ ((c.toNat : Int) = 9) from ne 9 h9), if_neg (show ¬ ((c.toNat : Int) = 10) from ne 10 h10), if_neg (show ¬ ((c.toNat : Int) = 13) from ne 13 h13), show ((c.toNat : Int) == 32) = false from beq_eq_false_iff_ne.mpr (ne 32 h32)]
      refine ⟨?_, L1 (by rw [if_neg h10]; exact G1)⟩
      rw [e]; simp only [blk]; rw [if_neg hbl]
      by_cases h35 : c = 35
      · rw [if_pos h35, show i + (blk true (s.data.toList.drop (i + 1)) + 1) = i + 1 + blk true (s.data.toList.drop (i + 1)) by omega]
        exact S _ (Ev.step (f := fun k => cuspref24_blank.l1 k s (i : Int)) (fun k => by simp only [cuspref24_blank.j1]; rw [if_neg (by simp), if_pos (by rw [h35]; rfl)]) G1)
      · rw [if_neg h35]
        exact S _ (Ev.step (f := fun _ => some (i : Int)) (fun k => by simp only [cuspref24_blank.j1]; rw [if_neg (by simp), if_neg (show ¬ ((c.toNat : Int) = 35) from ne 35 h35)]) (Ev.now _))
theorem rblank (s : ByteArray) (hs : s.size ≤ 140737488351232) (i : Nat) (hi : i ≤ s.size) : Ev (fun k => cuspref24_blank.f k s (i : Int)) ((i + blk false (s.data.toList.drop i) : Nat) : Int) := (rblank_ev s hs _ i rfl hi).1
end Go.Proofs.Ytdcjgibdfpldgaa
