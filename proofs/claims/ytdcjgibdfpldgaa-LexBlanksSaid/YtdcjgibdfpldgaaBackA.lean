/- Plain laws of cutting: what is cut is a token by itself, and what is a token is cut as one, whatever stands behind it that is no letter, digit or dot. -/
import Derived.Test.YtdcjgibdfpldgaaLawI
namespace Go.Proofs.Ytdcjgibdfpldgaa
set_option linter.unusedVariables false
set_option linter.unusedSimpArgs false
open Go.RowKit Go.Proofs.Ytdcjgibdfpldgaa.PLex Go.Proofs.YtdcjgibdfpldgaaW.PrintWords

/-- What may stand behind a token that is to stay as it is. -/
def sep (r : List UInt8) : Prop := ∀ c, r.head? = some c → isLD c = false ∧ c ≠ 46
theorem sep_nil : sep [] := fun c h => by simp at h
theorem ld_dig {c : UInt8} (h : isLD c = false) : isDig c = false := by unfold isLD at h; simp at h; exact h.2
theorem ld_let {c : UInt8} (h : isLD c = false) : isLet c = false := by unfold isLD at h; simp at h; exact h.1

theorem takeWhile_app (p : UInt8 → Bool) (r : List UInt8) (h : ∀ c, r.head? = some c → p c = false) : ∀ t : List UInt8, (t ++ r).takeWhile p = t.takeWhile p
  | [] => by
    cases r with
    | nil => rfl
    | cons c r => have := h c rfl; simp [this]
  | c :: t => by
    rw [List.cons_append, List.takeWhile_cons, List.takeWhile_cons, takeWhile_app p r h t]
theorem takeWhile_take (p : UInt8 → Bool) : ∀ (l : List UInt8) (n : Nat), (l.takeWhile p).length ≤ n → (l.take n).takeWhile p = l.takeWhile p
  | [], n, _ => by simp
  | c :: l, 0, h => by
    rw [List.takeWhile_cons] at h ⊢
    split
    · rename_i e; rw [if_pos e] at h; simp at h
    · simp
  | c :: l, n + 1, h => by
    rw [List.take_succ_cons, List.takeWhile_cons, List.takeWhile_cons]
    split
    · rename_i e
      rw [List.takeWhile_cons, if_pos e] at h
      rw [takeWhile_take p l n (by simpa using h)]
    · rfl
theorem digs_app (t r : List UInt8) (h : sep r) : digs (t ++ r) = digs t := by
  unfold digs; rw [takeWhile_app _ _ (fun c hc => ld_dig (h c hc).1)]
theorem digs_take (l : List UInt8) (n : Nat) (h : digs l ≤ n) : digs (l.take n) = digs l := by
  unfold digs at h ⊢; rw [takeWhile_take _ _ _ h]
theorem nm_app (t r : List UInt8) (h : sep r) (h0 : t ≠ []) : nm (t ++ r) = nm t := by
  cases t with
  | nil => exact absurd rfl h0
  | cons c t => simp only [List.cons_append, nm]; rw [takeWhile_app _ _ (fun c hc => (h c hc).1)]
theorem nm_take (l : List UInt8) : nm (l.take (nm l)) = nm l := by
  cases l with
  | nil => simp [nm]
  | cons c t =>
    simp only [nm]
    by_cases h : isLet c = true
    · rw [if_pos h, List.take_succ_cons]; simp only [nm]; rw [if_pos h, takeWhile_take _ _ _ (Nat.le_refl _)]
    · rw [if_neg h]; simp [nm]
theorem head_app (t r : List UInt8) : (t ++ r).head? = if t = [] then r.head? else t.head? := by
  cases t <;> simp
theorem head_take (l : List UInt8) (n : Nat) : (l.take n).head? = if n = 0 then none else l.head? := by
  cases n <;> cases l <;> simp

theorem mant_app (t r : List UInt8) (h : sep r) : mant (t ++ r) = mant t := by
  have hd := digs_le t
  unfold mant
  rw [digs_app t r h, List.drop_append_of_le_length hd]
  have hh : (List.drop (digs t) t ++ r).head? = some 46 ↔ (List.drop (digs t) t).head? = some 46 := by
    rw [head_app]
    by_cases e : List.drop (digs t) t = []
    · rw [if_pos e, e]
      constructor
      · intro h2; exact absurd rfl (h 46 h2).2
      · intro h2; simp at h2
    · rw [if_neg e]
  by_cases e : (List.drop (digs t) t).head? = some 46
  · rw [if_pos (hh.mpr e), if_pos e]
    have : digs t + 1 ≤ t.length := by
      rcases Nat.lt_or_ge (digs t) t.length with h' | h'
      · exact h'
      · rw [List.drop_of_length_le h'] at e; simp at e
    rw [List.drop_append_of_le_length this, digs_app _ _ h]
  · rw [if_neg (fun x => e (hh.mp x)), if_neg e]
theorem expo_app (u r : List UInt8) (h : sep r) (he : expo u = u.length) : expo (u ++ r) = expo u := by
  have hne : ∀ c, isLet c = true → r.head? ≠ some c := fun c hc h2 => by
    have := ld_let (h c h2).1; rw [this] at hc; cases hc
  by_cases h0 : u = []
  · subst h0
    rw [List.nil_append]; unfold expo
    rw [if_neg (by rintro (h2 | h2); exact hne 101 (by decide) h2; exact hne 69 (by decide) h2), if_neg (by simp)]
  · have hl : 0 < u.length := List.length_pos_iff.mpr h0
    have hh : (u ++ r).head? = u.head? := by rw [head_app, if_neg h0]
    unfold expo at he ⊢
    rw [hh]
    by_cases e : u.head? = some 101 ∨ u.head? = some 69
    · rw [if_pos e] at he ⊢; rw [if_pos e]
      have h2 : 2 ≤ u.length := by
        split at he
        · split at he <;> omega
        · split at he <;> omega
      have hd1 : (u ++ r).drop 1 = u.drop 1 ++ r := List.drop_append_of_le_length (by omega)
      have hd2 : (u ++ r).drop 2 = u.drop 2 ++ r := List.drop_append_of_le_length (by omega)
      have hn1 : u.drop 1 ≠ [] := by intro x; have := congrArg List.length x; rw [List.length_drop] at this; simp at this; omega
      rw [hd1, hd2, head_app, if_neg hn1, digs_app _ _ h, digs_app _ _ h]
    · rw [if_neg e] at he; omega
theorem num_app (t r : List UInt8) (h : sep r) (hn : (num t).1 = t.length) (h0 : 0 < t.length) : num (t ++ r) = num t := by
  have hm := (mant_le t).1
  unfold num at hn ⊢
  rw [mant_app t r h]
  by_cases e : (mant t).2 = 0
  · rw [if_pos e, if_pos e]
  · rw [if_neg e] at hn ⊢; rw [if_neg e]
    rw [List.drop_append_of_le_length hm, expo_app _ _ h (by rw [List.length_drop]; show expo _ = _; simp only at hn; omega)]

theorem expo_take (u : List UInt8) : expo (u.take (expo u)) = expo u := by
  by_cases h0 : expo u = 0
  · rw [h0]; rfl
  · have hu := expo_le u
    unfold expo at h0
    by_cases e : u.head? = some 101 ∨ u.head? = some 69
    · rw [if_pos e] at h0
      by_cases g : (u.drop 1).head? = some 43 ∨ (u.drop 1).head? = some 45
      · rw [if_pos g] at h0
        by_cases p : digs (u.drop 2) > 0
        · have ex : expo u = digs (u.drop 2) + 2 := by unfold expo; rw [if_pos e, if_pos g, if_pos p]
          rw [ex]; unfold expo
          rw [head_take, if_neg (show ¬ digs (u.drop 2) + 2 = 0 by omega), if_pos e, List.drop_take, head_take, if_neg (show ¬ digs (u.drop 2) + 2 - 1 = 0 by omega), if_pos g, List.drop_take, Nat.add_sub_cancel, digs_take _ _ (Nat.le_refl _), if_pos p]
        · rw [if_neg p] at h0; exact absurd rfl h0
      · rw [if_neg g] at h0
        by_cases p : digs (u.drop 1) > 0
        · have ex : expo u = digs (u.drop 1) + 1 := by unfold expo; rw [if_pos e, if_neg g, if_pos p]
          rw [ex]; unfold expo
          rw [head_take, if_neg (show ¬ digs (u.drop 1) + 1 = 0 by omega), if_pos e, List.drop_take, head_take, if_neg (show ¬ digs (u.drop 1) + 1 - 1 = 0 by omega), if_neg g, Nat.add_sub_cancel, digs_take _ _ (Nat.le_refl _), if_pos p]
        · rw [if_neg p] at h0; exact absurd rfl h0
    · rw [if_neg e] at h0; exact absurd rfl h0
theorem mant_take (l : List UInt8) (n : Nat) (h : (mant l).1 ≤ n) (hc : (mant l).2 ≠ 0) : mant (l.take n) = mant l := by
  have hd : digs l ≤ n := by
    unfold mant at h hc
    split at h
    · rename_i e
      rw [if_pos e] at hc
      split at h
      · rename_i z; rw [if_pos z] at hc; exact absurd rfl hc
      · simp only at h; omega
    · exact h
  unfold mant at h hc ⊢
  rw [digs_take l n hd, List.drop_take, head_take]
  by_cases e : (List.drop (digs l) l).head? = some 46
  · rw [if_pos e] at h hc ⊢
    by_cases z : digs l + digs (List.drop (digs l + 1) l) = 0
    · rw [if_pos z] at hc; exact absurd rfl hc
    · rw [if_neg z] at h hc ⊢
      simp only at h
      rw [if_neg (show ¬ n - digs l = 0 by omega), if_pos e, List.drop_take, digs_take _ _ (by omega), if_neg z]
  · rw [if_neg e] at h ⊢
    by_cases z : n - digs l = 0
    · rw [if_pos z, if_neg (by simp)]
    · rw [if_neg z, if_neg e]
theorem num_take (l : List UInt8) (h : 0 < (num l).1) : num (l.take (num l).1) = num l := by
  have hc : (mant l).2 ≠ 0 := by
    intro e; unfold num at h; rw [if_pos e] at h; simp at h
  have hn : num l = ((mant l).1 + expo (l.drop (mant l).1), (mant l).2) := by unfold num; rw [if_neg hc]
  rw [hn]; simp only
  have hm := mant_take l ((mant l).1 + expo (l.drop (mant l).1)) (by omega) hc
  conv => lhs; unfold num
  rw [hm, if_neg hc, List.drop_take, Nat.add_sub_cancel_left, expo_take]

/-- A token's text, by its kind. -/
def goodT (k : Nat) (t : List UInt8) : Prop := (k = 1 ∧ numB t = true) ∨ (k = 2 ∧ nameB t = true) ∨ (k = 3 ∧ signB t = true)
theorem sign_facts : ∀ c, isSign c = true → isLet c = false ∧ isDig c = false ∧ c ≠ 46 ∧ c ≠ 9 ∧ c ≠ 10 ∧ c ≠ 13 ∧ c ≠ 32 ∧ c ≠ 35 := by
  intro c h
  unfold isSign signs at h
  simp at h
  rcases h with h | h | h | h | h | h | h | h | h | h | h | h <;> subst h <;> decide
theorem fst_good (k : Nat) (t r : List UInt8) (h : goodT k t) (hr : k = 3 ∨ sep r) : fst (t ++ r) = (0, k, t.length) := by
  rcases h with ⟨rfl, h⟩ | ⟨rfl, h⟩ | ⟨rfl, h⟩
  · have hs : sep r := hr.resolve_left (by omega)
    have h' := of_decide_eq_true h
    have e := num_app t r hs h'.2.1 (by omega)
    have hz : ¬ nm (t ++ r) > 0 := by
      intro hh; have := num_let _ hh; rw [e] at this; rw [this] at h'; simp at h'
    unfold fst; rw [if_neg hz, e, if_pos h'.1, if_neg (by omega), h'.2.1]
  · have hs : sep r := hr.resolve_left (by omega)
    have h' := of_decide_eq_true h
    have e := nm_app t r hs h'.1
    have h0 : 0 < t.length := List.length_pos_iff.mpr h'.1
    unfold fst; rw [e, h'.2.2, if_pos h0, if_neg (by omega)]
  · have h' := of_decide_eq_true h
    obtain ⟨c, rfl⟩ := List.length_eq_one_iff.mp h'.1
    have hc : isSign c = true := by simpa using h'.2
    obtain ⟨f1, f2, f3, _⟩ := sign_facts c hc
    have e0 : nm ([c] ++ r) = 0 := by simp [nm, f1]
    have e1 : digs ([c] ++ r) = 0 := by show digs (c :: r) = 0; rw [digs_cons, f2]; simp
    have e2 : mant ([c] ++ r) = (0, 0) := by unfold mant; rw [e1, if_neg (by simpa using f3)]
    have e3 : num ([c] ++ r) = (0, 0) := by unfold num; rw [e2]; simp
    unfold fst; rw [e0, if_neg (by omega), e3, if_neg (by simp), if_pos (by simpa using hc)]; rfl
theorem good_fst (l : List UInt8) (h : (fst l).1 = 0) : goodT (fst l).2.1 (l.take (fst l).2.2) := by
  have hn := num_le l; have hm := nm_le l
  unfold fst at h ⊢
  by_cases h1 : nm l > 0
  · rw [if_pos h1] at h ⊢
    by_cases h2 : nm l > 64
    · rw [if_pos h2] at h; simp at h
    · rw [if_neg h2]
      refine .inr (.inl ⟨rfl, decide_eq_true ?_⟩)
      have hl : (l.take (nm l)).length = nm l := by rw [List.length_take]; omega
      refine ⟨?_, ?_, ?_⟩
      · intro e; rw [e] at hl; simp at hl; omega
      · show (l.take (nm l)).length ≤ 64; omega
      · show nm (l.take (nm l)) = (l.take (nm l)).length; rw [nm_take, hl]
  · rw [if_neg h1] at h ⊢
    by_cases h2 : (num l).1 > 0
    · rw [if_pos h2] at h ⊢
      by_cases h3 : (num l).2 > 1100
      · rw [if_pos h3] at h; simp at h
      · rw [if_neg h3]
        refine .inl ⟨rfl, decide_eq_true ?_⟩
        have hl : (l.take (num l).1).length = (num l).1 := by rw [List.length_take]; omega
        show (num (l.take (num l).1)).1 > 0 ∧ (num (l.take (num l).1)).1 = (l.take (num l).1).length ∧ (num (l.take (num l).1)).2 ≤ 1100
        rw [num_take l h2, hl]; exact ⟨h2, rfl, by omega⟩
    · rw [if_neg h2] at h ⊢
      by_cases h3 : l.head?.map isSign = some true
      · rw [if_pos h3]
        refine .inr (.inr ⟨rfl, decide_eq_true ?_⟩)
        cases l with
        | nil => simp at h3
        | cons c t => exact ⟨by simp, by simpa using h3⟩
      · rw [if_neg h3] at h; simp at h
/-- No token begins with a blank or a remark. -/
theorem blk_good (k : Nat) (t r : List UInt8) (h : goodT k t) : blk false (t ++ r) = 0 := by
  have key : ∃ c u, t = c :: u ∧ (c ≠ 9 ∧ c ≠ 10 ∧ c ≠ 13 ∧ c ≠ 32 ∧ c ≠ 35) := by
    rcases h with ⟨_, h⟩ | ⟨_, h⟩ | ⟨_, h⟩
    · have h' := of_decide_eq_true h
      cases t with
      | nil => simp at h'; omega
      | cons c u =>
        refine ⟨c, u, rfl, ?_⟩
        have hd : isDig c = true ∨ c = 46 := by
          by_cases e : isDig c = true
          · exact .inl e
          · right
            have e1 : digs (c :: u) = 0 := by rw [digs_cons, if_neg e]
            apply Classical.byContradiction; intro e2
            have e3 : mant (c :: u) = (0, 0) := by unfold mant; rw [e1, if_neg (by simpa using e2)]
            have e4 : num (c :: u) = (0, 0) := by unfold num; rw [e3]; simp
            rw [e4] at h'; simp at h'
        rcases hd with hd | rfl
        · refine ⟨?_, ?_, ?_, ?_, ?_⟩ <;> (intro e; subst e; exact absurd hd (by decide))
        · decide
    · have h' := of_decide_eq_true h
      cases t with
      | nil => exact absurd rfl h'.1
      | cons c u =>
        refine ⟨c, u, rfl, ?_⟩
        have hc : isLet c = true := by
          apply Classical.byContradiction; intro e
          have h3 := h'.2.2
          simp only [nm] at h3; rw [if_neg e] at h3; simp at h3
        refine ⟨?_, ?_, ?_, ?_, ?_⟩ <;> (intro e; subst e; exact absurd hc (by decide))
    · have h' := of_decide_eq_true h
      obtain ⟨c, rfl⟩ := List.length_eq_one_iff.mp h'.1
      obtain ⟨_, _, _, h9, h10, h13, h32, h35⟩ := sign_facts c (by simpa using h'.2)
      exact ⟨c, [], rfl, h9, h10, h13, h32, h35⟩
  obtain ⟨c, u, rfl, h9, h10, h13, h32, h35⟩ := key
  simp only [List.cons_append, blk]
  rw [if_neg (by rintro (h | h | h | h); exact h9 h; exact h10 h; exact h13 h; exact h32 h), if_neg h35]
theorem good_ne (k : Nat) (t : List UInt8) (h : goodT k t) : t ≠ [] := by
  intro e; subst e
  rcases h with ⟨_, h⟩ | ⟨_, h⟩ | ⟨_, h⟩ <;> exact absurd h (by decide)
theorem good_kind (k : Nat) (t : List UInt8) (h : goodT k t) : k = 1 ∨ k = 2 ∨ k = 3 := by
  rcases h with ⟨h, _⟩ | ⟨h, _⟩ | ⟨h, _⟩ <;> omega
/-- A token's text is short. -/
theorem good_valid (k : Nat) (t : List UInt8) (a : Int) (ha : 0 ≤ a) (h : goodT k t) : validB (k : Int) t a = true := by
  unfold validB; rw [if_neg (by omega)]
  rcases h with ⟨rfl, h⟩ | ⟨rfl, h⟩ | ⟨rfl, h⟩
  · exact h
  · exact h
  · exact h
end Go.Proofs.Ytdcjgibdfpldgaa
