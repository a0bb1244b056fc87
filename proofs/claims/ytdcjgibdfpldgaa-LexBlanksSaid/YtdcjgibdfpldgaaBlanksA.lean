/- Blanks and remarks put in between tokens change nothing but places: the plain law. -/
import Derived.Test.YtdcjgibdfpldgaaBackA
namespace Go.Proofs.Ytdcjgibdfpldgaa
set_option linter.unusedVariables false
set_option linter.unusedSimpArgs false
open Go.RowKit Go.Proofs.Ytdcjgibdfpldgaa.PLex Go.Proofs.YtdcjgibdfpldgaaW.PrintWords

/-- What is put in. -/
def six : List (List UInt8) := [[32], [10], [9], [13], [32, 35, 32, 40, 120, 10], [35, 10]]
theorem six_ne {b : List UInt8} (h : b ∈ six) : ∃ c t, b = c :: t ∧ (c = 9 ∨ c = 10 ∨ c = 13 ∨ c = 32 ∨ c = 35) := by
  unfold six at h
  simp at h
  rcases h with h | h | h | h | h | h <;> subst h <;> exact ⟨_, _, rfl, by decide⟩
theorem six_le {b : List UInt8} (h : b ∈ six) : b.length ≤ 6 := by
  unfold six at h
  simp at h
  rcases h with h | h | h | h | h | h <;> subst h <;> decide
theorem six_blk {b : List UInt8} (h : b ∈ six) (y : List UInt8) : blk false (b ++ y) = b.length + blk false y := by
  unfold six at h
  simp at h
  rcases h with h | h | h | h | h | h <;> subst h <;> simp [blk] <;> omega
theorem six_all {b : List UInt8} (h : b ∈ six) (s : Bool) : blk s b = b.length := by
  unfold six at h
  simp at h
  rcases h with h | h | h | h | h | h <;> subst h <;> cases s <;> decide

theorem blk_ins {b : List UInt8} (hb : b ∈ six) : ∀ (x : List UInt8) (s : Bool), blk s (x.take (blk s x) ++ b ++ x.drop (blk s x)) = blk s x + b.length
  | [], s => by
    have : blk s [] = 0 := by cases s <;> rfl
    rw [this]; simp [six_all hb]
  | c :: t, false => by
    by_cases h1 : c = 9 ∨ c = 10 ∨ c = 13 ∨ c = 32
    · have e : blk false (c :: t) = blk false t + 1 := by simp only [blk]; rw [if_pos h1]
      rw [e, List.take_succ_cons, List.drop_succ_cons, List.cons_append, List.cons_append]
      simp only [blk]; rw [if_pos h1, blk_ins hb t false]; omega
    · by_cases h2 : c = 35
      · have e : blk false (c :: t) = blk true t + 1 := by simp only [blk]; rw [if_neg h1, if_pos h2]
        rw [e, List.take_succ_cons, List.drop_succ_cons, List.cons_append, List.cons_append]
        simp only [blk]; rw [if_neg h1, if_pos h2, blk_ins hb t true]; omega
      · have e : blk false (c :: t) = 0 := by simp only [blk]; rw [if_neg h1, if_neg h2]
        rw [e, List.take_zero, List.drop_zero, List.nil_append, six_blk hb, e]; omega
  | c :: t, true => by
    by_cases h2 : c = 10
    · have e : blk true (c :: t) = blk false t + 1 := by simp only [blk]; rw [if_pos h2]
      rw [e, List.take_succ_cons, List.drop_succ_cons, List.cons_append, List.cons_append]
      simp only [blk]; rw [if_pos h2, blk_ins hb t false]; omega
    · have e : blk true (c :: t) = blk true t + 1 := by simp only [blk]; rw [if_neg h2]
      rw [e, List.take_succ_cons, List.drop_succ_cons, List.cons_append, List.cons_append]
      simp only [blk]; rw [if_neg h2, blk_ins hb t true]; omega
theorem blk_pre : ∀ (x y : List UInt8) (s : Bool) (m : Nat), blk s x < m → m ≤ x.length → blk s (x.take m ++ y) = blk s x
  | [], y, s, m, h, hm => by simp at hm; omega
  | c :: t, y, s, 0, h, hm => by omega
  | c :: t, y, false, m + 1, h, hm => by
    rw [List.take_succ_cons, List.cons_append]
    simp only [blk] at h ⊢
    by_cases h1 : c = 9 ∨ c = 10 ∨ c = 13 ∨ c = 32
    · rw [if_pos h1] at h ⊢; rw [if_pos h1, blk_pre t y false m (by omega) (by simpa using hm)]
    · rw [if_neg h1] at h ⊢; rw [if_neg h1]
      by_cases h2 : c = 35
      · rw [if_pos h2] at h ⊢; rw [if_pos h2, blk_pre t y true m (by omega) (by simpa using hm)]
      · rw [if_neg h2, if_neg h2]
  | c :: t, y, true, m + 1, h, hm => by
    rw [List.take_succ_cons, List.cons_append]
    simp only [blk] at h ⊢
    by_cases h2 : c = 10
    · rw [if_pos h2] at h ⊢; rw [if_pos h2, blk_pre t y false m (by omega) (by simpa using hm)]
    · rw [if_neg h2] at h ⊢; rw [if_neg h2, blk_pre t y true m (by omega) (by simpa using hm)]

def blankish (b : List UInt8) : Prop := ∃ c t, b = c :: t ∧ (c = 9 ∨ c = 10 ∨ c = 13 ∨ c = 32 ∨ c = 35)
theorem blankish_sep {b : List UInt8} (h : blankish b) : sep b := by
  obtain ⟨c, t, rfl, hc⟩ := h
  intro d hd; simp at hd; subst hd
  rcases hc with h | h | h | h | h <;> subst h <;> decide
theorem blankish_head {b : List UInt8} (h : blankish b) : b.head? ≠ some 43 ∧ b.head? ≠ some 45 ∧ b.head? ≠ some 101 ∧ b.head? ≠ some 69 ∧ digs b = 0 := by
  obtain ⟨c, t, rfl, hc⟩ := h
  have hd : isDig c = false := by rcases hc with h | h | h | h | h <;> subst h <;> decide
  refine ⟨?_, ?_, ?_, ?_, by rw [digs_cons, hd]; rfl⟩ <;> (intro e; simp at e; subst e; revert hc; decide)
theorem digs_take_le (l : List UInt8) (n : Nat) : digs (l.take n) ≤ digs l := by
  unfold digs
  induction l generalizing n with
  | nil => simp
  | cons c l ih =>
    cases n with
    | zero => simp
    | succ n =>
      rw [List.take_succ_cons, List.takeWhile_cons, List.takeWhile_cons]
      split
      · simpa using ih n
      · simp
theorem expo_ins (u b : List UInt8) (e : Nat) (hb : blankish b) (h : expo u ≤ e) (he : e ≤ u.length) : expo (u.take e ++ b) = expo u := by
  obtain ⟨b1, b2, b3, b4, b5⟩ := blankish_head hb
  have hs := blankish_sep hb
  by_cases e0 : e = 0
  · subst e0
    have : expo u = 0 := by omega
    rw [this, List.take_zero, List.nil_append]; unfold expo
    rw [if_neg (by rintro (h | h); exact b3 h; exact b4 h)]
  · have hu : u ≠ [] := by intro x; subst x; simp at he; omega
    have hne : u.take e ≠ [] := by intro x; have := congrArg List.length x; rw [List.length_take, List.length_nil] at this; omega
    have hh : (u.take e ++ b).head? = u.head? := by rw [head_app, if_neg hne, head_take, if_neg e0]
    have hl : (u.take e).length = e := by rw [List.length_take]; omega
    unfold expo at h ⊢
    rw [hh]
    by_cases c : u.head? = some 101 ∨ u.head? = some 69
    · rw [if_pos c] at h ⊢; rw [if_pos c]
      have d1 : (u.take e ++ b).drop 1 = (u.drop 1).take (e - 1) ++ b := by
        rw [List.drop_append_of_le_length (by omega), List.drop_take]
      rw [d1]
      by_cases e1 : e = 1
      · subst e1
        have hx : expo u = 0 := by
          unfold expo; rw [if_pos c]
          by_cases g : (u.drop 1).head? = some 43 ∨ (u.drop 1).head? = some 45
          · rw [if_pos g] at h ⊢
            by_cases p : digs (u.drop 2) > 0
            · rw [if_pos p] at h; omega
            · rw [if_neg p]
          · rw [if_neg g] at h ⊢
            by_cases p : digs (u.drop 1) > 0
            · rw [if_pos p] at h; omega
            · rw [if_neg p]
        have hx2 := hx
        unfold expo at hx2; rw [if_pos c] at hx2
        rw [hx2, Nat.sub_self, List.take_zero, List.nil_append, if_neg (by rintro (h | h); exact b1 h; exact b2 h), b5, if_neg (by omega)]
      · have hne1 : (u.drop 1).take (e - 1) ≠ [] := by intro x; have := congrArg List.length x; rw [List.length_take, List.length_drop, List.length_nil] at this; omega
        have hh1 : ((u.drop 1).take (e - 1) ++ b).head? = (u.drop 1).head? := by rw [head_app, if_neg hne1, head_take, if_neg (by omega)]
        rw [hh1]
        by_cases g : (u.drop 1).head? = some 43 ∨ (u.drop 1).head? = some 45
        · rw [if_pos g] at h ⊢; rw [if_pos g]
          have d2 : (u.take e ++ b).drop 2 = (u.drop 2).take (e - 2) ++ b := by
            rw [List.drop_append_of_le_length (by omega), List.drop_take]
          rw [d2, digs_app _ _ hs]
          by_cases p : digs (u.drop 2) > 0
          · rw [if_pos p] at h ⊢; rw [digs_take _ _ (by omega), if_pos p]
          · have := digs_take_le (u.drop 2) (e - 2)
            rw [if_neg p, if_neg (by omega)]
        · rw [if_neg g] at h ⊢; rw [if_neg g, digs_app _ _ hs]
          by_cases p : digs (u.drop 1) > 0
          · rw [if_pos p] at h ⊢; rw [digs_take _ _ (by omega), if_pos p]
          · have := digs_take_le (u.drop 1) (e - 1)
            rw [if_neg p, if_neg (by omega)]
    · rw [if_neg c, if_neg c]
theorem num_ins (l b : List UInt8) (j : Nat) (hb : blankish b) (h0 : 0 < (num l).1) (h : (num l).1 ≤ j) (hj : j ≤ l.length) : num (l.take j ++ b) = num l := by
  have hc : (mant l).2 ≠ 0 := by
    intro e; unfold num at h0; rw [if_pos e] at h0; simp at h0
  have hn : num l = ((mant l).1 + expo (l.drop (mant l).1), (mant l).2) := by unfold num; rw [if_neg hc]
  rw [hn] at h ⊢
  simp only at h
  have hm : mant (l.take j ++ b) = mant l := by rw [mant_app _ _ (blankish_sep hb), mant_take _ _ (by omega) hc]
  have hl : (l.take j).length = j := by rw [List.length_take]; omega
  unfold num
  rw [hm, if_neg hc, List.drop_append_of_le_length (by omega), List.drop_take, expo_ins _ _ _ hb (by omega) (by rw [List.length_drop]; omega)]
theorem nm_ins (l b : List UInt8) (j : Nat) (hb : blankish b) (h : nm l ≤ j) (h0 : 0 < j) (hj : j ≤ l.length) : nm (l.take j ++ b) = nm l := by
  have hne : l.take j ≠ [] := by intro x; have := congrArg List.length x; rw [List.length_take, List.length_nil] at this; omega
  rw [nm_app _ _ (blankish_sep hb) hne]
  cases l with
  | nil => simp
  | cons c t =>
    obtain ⟨j, rfl⟩ : ∃ i, j = i + 1 := ⟨j - 1, by omega⟩
    rw [List.take_succ_cons]
    simp only [nm] at h ⊢
    by_cases e : isLet c = true
    · rw [if_pos e] at h ⊢; rw [if_pos e, takeWhile_take _ _ _ (by omega)]
    · rw [if_neg e, if_neg e]
theorem fst_ins (l b : List UInt8) (j : Nat) (hb : blankish b) (h0 : (fst l).1 = 0) (h : (fst l).2.2 ≤ j) (hj : j ≤ l.length) : fst (l.take j ++ b) = fst l := by
  have hlen := fst_len l h0
  have hn : nm l ≤ j := by
    unfold fst at h0 h
    by_cases h1 : nm l > 0
    · rw [if_pos h1] at h0 h
      split at h
      · rename_i g; rw [if_pos g] at h0; simp at h0
      · exact h
    · omega
  have e1 := nm_ins l b j hb hn (by omega) hj
  by_cases h1 : nm l > 0
  · unfold fst; rw [e1, if_pos h1, if_pos h1]
  · by_cases h2 : (num l).1 > 0
    · have hnum : (num l).1 ≤ j := by
        unfold fst at h0 h
        rw [if_neg h1, if_pos h2] at h0 h
        split at h
        · rename_i g; rw [if_pos g] at h0; simp at h0
        · exact h
      have e2 := num_ins l b j hb h2 hnum hj
      unfold fst; rw [e1, if_neg h1, if_neg h1, e2, if_pos h2, if_pos h2]
    · have e3 : fst l = (0, 3, 1) ∧ ∃ c t, l = c :: t ∧ isSign c = true := by
        unfold fst at h0 ⊢
        rw [if_neg h1, if_neg h2] at h0 ⊢
        by_cases h3 : l.head?.map isSign = some true
        · rw [if_pos h3]
          refine ⟨rfl, ?_⟩
          cases l with
          | nil => simp at h3
          | cons c t => exact ⟨c, t, rfl, by simpa using h3⟩
        · rw [if_neg h3] at h0; simp at h0
      obtain ⟨e3, c, t, rfl, hc⟩ := e3
      obtain ⟨j, rfl⟩ : ∃ i, j = i + 1 := ⟨j - 1, by rw [e3] at h; simp at h; omega⟩
      have := fst_good 3 [c] (t.take j ++ b) (.inr (.inr ⟨rfl, by unfold signB; simp [hc]⟩)) (.inl rfl)
      rw [e3, List.take_succ_cons, List.cons_append]; exact this

def shift (c : Nat) (t : S32) : S32 := ⟨t.f0, t.f1, t.f2 + (c : Int)⟩
theorem run_fuel : ∀ (f : Nat) (x : List UInt8) (i : Nat) (out : List S32) (f' : Nat), x.length < f → f ≤ f' → run f' x i out = run f x i out
  | 0, x, i, out, f', h, _ => by omega
  | f + 1, x, i, out, 0, h, hf => by omega
  | f + 1, x, i, out, f' + 1, h, hf => by
    rw [run, run]
    by_cases h1 : x.drop (blk false x) = []
    · rw [if_pos h1, if_pos h1]
    · rw [if_neg h1, if_neg h1]
      by_cases h2 : (fst (x.drop (blk false x))).1 ≠ 0
      · rw [if_pos h2, if_pos h2]
      · rw [if_neg h2, if_neg h2]
        by_cases h3 : out.length = 65536
        · rw [if_pos h3, if_pos h3]
        · rw [if_neg h3, if_neg h3]
          have := fst_len (x.drop (blk false x)) (by simpa using h2)
          refine run_fuel f _ _ _ f' ?_ (by omega)
          rw [List.length_drop, List.length_drop]
          rw [List.length_drop] at this; omega
theorem run_alt : ∀ (f : Nat) (x : List UInt8) (i : Nat) (out : List S32), (run f x i out).2.2 = 0 → (run f x i out).1 = [] ∨ out.length < (run f x i out).1.length
  | 0, _, _, _, _ => .inl rfl
  | f + 1, x, i, out, h0 => by
    rw [run] at h0 ⊢
    by_cases h1 : x.drop (blk false x) = []
    · rw [if_pos h1] at h0 ⊢
      by_cases h3 : out.length = 65536
      · rw [if_pos h3]; exact .inl rfl
      · rw [if_neg h3]; right; simp
    · rw [if_neg h1] at h0 ⊢
      by_cases h2 : (fst (x.drop (blk false x))).1 ≠ 0
      · rw [if_pos h2]; exact .inl rfl
      · rw [if_neg h2] at h0 ⊢
        by_cases h3 : out.length = 65536
        · rw [if_pos h3]; exact .inl rfl
        · rw [if_neg h3] at h0 ⊢
          rcases run_alt f _ _ _ h0 with g | g
          · exact .inl g
          · exact .inr (Nat.lt_trans (by rw [List.length_append]; simp) g)
/-- Where a run that has too few rounds, as it may seem, goes well and finds something, more rounds find the same. -/
theorem run_fuel_of : ∀ (f f' : Nat) (x : List UInt8) (i : Nat) (out : List S32), f ≤ f' → (run f x i out).2.2 = 0 → out.length < (run f x i out).1.length → run f' x i out = run f x i out
  | 0, f', x, i, out, _, _, h => by simp [run] at h
  | f + 1, 0, x, i, out, h, _, _ => by omega
  | f + 1, f' + 1, x, i, out, h, h0, hl => by
    rw [run] at h0 hl
    rw [run, run]
    by_cases h1 : x.drop (blk false x) = []
    · rw [if_pos h1, if_pos h1]
    · rw [if_neg h1] at h0 hl
      rw [if_neg h1, if_neg h1]
      by_cases h2 : (fst (x.drop (blk false x))).1 ≠ 0
      · rw [if_pos h2, if_pos h2]
      · rw [if_neg h2] at h0 hl
        rw [if_neg h2, if_neg h2]
        by_cases h3 : out.length = 65536
        · rw [if_pos h3, if_pos h3]
        · rw [if_neg h3] at h0 hl
          rw [if_neg h3, if_neg h3]
          refine run_fuel_of f f' _ _ _ (by omega) h0 ?_
          rcases run_alt f _ _ _ h0 with g | g
          · rw [g] at hl; simp at hl
          · exact g
/-- A run that goes well only adds; and it does the same elsewhere. -/
theorem run_adds : ∀ (f : Nat) (x : List UInt8) (i : Nat) (out : List S32), x.length < f → (run f x i out).2.2 = 0 →
    ∃ R, R ≠ [] ∧ ∀ (c : Nat) (o2 : List S32), o2.length = out.length → run f x (i + c) o2 = (o2 ++ R.map (shift c), 0, 0)
  | 0, x, i, out, h, _ => by omega
  | f + 1, x, i, out, h, h0 => by
    rw [run] at h0
    by_cases h1 : x.drop (blk false x) = []
    · rw [if_pos h1] at h0
      by_cases h3 : out.length = 65536
      · rw [if_pos h3] at h0; simp at h0
      · refine ⟨[⟨0, ⟨#[]⟩, ((i + blk false x : Nat) : Int)⟩], by simp, fun c o2 ho => ?_⟩
        rw [run, if_pos h1, if_neg (by omega)]
        simp [shift]; omega
    · rw [if_neg h1] at h0
      by_cases h2 : (fst (x.drop (blk false x))).1 ≠ 0
      · rw [if_pos h2] at h0; simp at h0; omega
      · rw [if_neg h2] at h0
        by_cases h3 : out.length = 65536
        · rw [if_pos h3] at h0; simp at h0
        · rw [if_neg h3] at h0
          have hl := fst_len (x.drop (blk false x)) (by simpa using h2)
          have hl2 : ((x.drop (blk false x)).drop (fst (x.drop (blk false x))).2.2).length < f := by
            rw [List.length_drop, List.length_drop]; rw [List.length_drop] at hl; omega
          obtain ⟨R, _, hR⟩ := run_adds f _ _ _ hl2 h0
          refine ⟨⟨((fst (x.drop (blk false x))).2.1 : Int), bytesA ((x.drop (blk false x)).take (fst (x.drop (blk false x))).2.2), ((i + blk false x : Nat) : Int)⟩ :: R, by simp, fun c o2 ho => ?_⟩
          rw [run, if_neg h1, if_neg h2, if_neg (by omega)]
          have := hR c (o2 ++ [⟨((fst (x.drop (blk false x))).2.1 : Int), bytesA ((x.drop (blk false x)).take (fst (x.drop (blk false x))).2.2), ((i + c + blk false x : Nat) : Int)⟩]) (by rw [List.length_append, List.length_append, ho]; rfl)
          rw [show i + blk false x + (fst (x.drop (blk false x))).2.2 + c = i + c + blk false x + (fst (x.drop (blk false x))).2.2 by omega] at this
          rw [this]
          simp [shift]; omega

theorem run_ins {b : List UInt8} (hb : b ∈ six) : ∀ (f : Nat) (x : List UInt8) (i : Nat) (out R : List S32) (k : Nat), x.length < f → run f x i out = (out ++ R, 0, 0) → k < R.length →
    ∃ m, m ≤ x.length ∧ (R.getD k z32).f2 = ((i + m : Nat) : Int) ∧ run f (x.take m ++ b ++ x.drop m) i out = (out ++ (R.take k ++ (R.drop k).map (shift b.length)), 0, 0)
  | 0, x, i, out, R, k, h, _, _ => by omega
  | f + 1, x, i, out, R, k, h, hr, hk => by
    have hble := blk_le false x
    have hx0 : x.take (blk false x) ++ x.drop (blk false x) = x := List.take_append_drop _ _
    -- at once
    have ZERO : k = 0 → ∃ m, m ≤ x.length ∧ (R.getD k z32).f2 = ((i + m : Nat) : Int) ∧ run (f + 1) (x.take m ++ b ++ x.drop m) i out = (out ++ (R.take k ++ (R.drop k).map (shift b.length)), 0, 0) := by
      intro hk0; subst hk0
      obtain ⟨R', hne, hR'⟩ := run_adds (f + 1) x i out h (by rw [hr])
      have e0 := hR' 0 out rfl
      rw [show i + 0 = i from rfl, hr] at e0
      have eR : R = R' := by
        have := congrArg Prod.fst e0; simp only at this
        have := List.append_cancel_left this
        rw [this]
        have : (shift 0) = id := by funext t; cases t; simp [shift]
        rw [this, List.map_id]
      subst eR
      refine ⟨blk false x, hble, ?_, ?_⟩
      · rw [run] at hr
        by_cases h1 : x.drop (blk false x) = []
        · rw [if_pos h1] at hr
          by_cases h3 : out.length = 65536
          · rw [if_pos h3] at hr; simp at hr
          · rw [if_neg h3] at hr
            have := List.append_cancel_left (congrArg Prod.fst hr)
            rw [← this]; rfl
        · rw [if_neg h1] at hr
          by_cases h2 : (fst (x.drop (blk false x))).1 ≠ 0
          · rw [if_pos h2] at hr; have := congrArg (fun z => z.2.2) hr; simp at this; omega
          · rw [if_neg h2] at hr
            by_cases h3 : out.length = 65536
            · rw [if_pos h3] at hr; simp at hr
            · rw [if_neg h3] at hr
              have hl := fst_len (x.drop (blk false x)) (by simpa using h2)
              have hl3 : ((x.drop (blk false x)).drop (fst (x.drop (blk false x))).2.2).length < f := by
                rw [List.length_drop, List.length_drop]; rw [List.length_drop] at hl; omega
              obtain ⟨R2, _, hR2⟩ := run_adds f _ _ _ hl3 (by rw [hr])
              have e2 := hR2 0 _ rfl
              rw [show ∀ n : Nat, n + 0 = n from fun _ => rfl, hr] at e2
              have e3 := congrArg Prod.fst e2; simp only [List.append_assoc] at e3
              have e4 := List.append_cancel_left e3
              rw [e4]; rfl
      · have hB := blk_ins hb x false
        have hD : (x.take (blk false x) ++ b ++ x.drop (blk false x)).drop (blk false x + b.length) = x.drop (blk false x) := by
          have : (x.take (blk false x) ++ b).length = blk false x + b.length := by rw [List.length_append, List.length_take]; omega
          rw [← this, List.drop_left]
        have key : run (f + 1) (x.take (blk false x) ++ b ++ x.drop (blk false x)) i out = run (f + 1) x (i + b.length) out := by
          conv => lhs; rw [run, hB, hD]
          conv => rhs; rw [run]
          rw [show i + (blk false x + b.length) = i + b.length + blk false x by omega]
        rw [key, hR' b.length out rfl]; simp
    by_cases hk0 : k = 0
    · exact ZERO hk0
    · obtain ⟨k, rfl⟩ : ∃ j, k = j + 1 := ⟨k - 1, by omega⟩
      have hr0 := hr
      rw [run] at hr
      by_cases h1 : x.drop (blk false x) = []
      · rw [if_pos h1] at hr
        by_cases h3 : out.length = 65536
        · rw [if_pos h3] at hr; simp at hr
        · rw [if_neg h3] at hr
          have := List.append_cancel_left (congrArg Prod.fst hr)
          rw [← this] at hk; simp at hk
      · rw [if_neg h1] at hr
        by_cases h2 : (fst (x.drop (blk false x))).1 ≠ 0
        · rw [if_pos h2] at hr; have := congrArg (fun z => z.2.2) hr; simp at this; omega
        · have h2' : (fst (x.drop (blk false x))).1 = 0 := by simpa using h2
          rw [if_neg h2] at hr
          by_cases h3 : out.length = 65536
          · rw [if_pos h3] at hr; simp at hr
          · rw [if_neg h3] at hr
            have hl := fst_len (x.drop (blk false x)) h2'
            rw [List.length_drop] at hl
            obtain ⟨m0, hm0⟩ : ∃ m0, blk false x = m0 := ⟨_, rfl⟩
            obtain ⟨q, hq⟩ : ∃ q, fst (x.drop m0) = q := ⟨_, rfl⟩
            rw [hm0, hq] at hr hl
            rw [hm0] at hble h1 h2' h2
            rw [hq] at h2' h2
            have hl2 : ((x.drop m0).drop q.2.2).length < f := by rw [List.length_drop, List.length_drop]; omega
            obtain ⟨R2, _, hR2⟩ := run_adds f _ _ _ hl2 (by rw [hr])
            have e2 := hR2 0 _ rfl
            rw [Nat.add_zero] at e2
            have eid : (shift 0) = id := by funext t; cases t; simp [shift]
            rw [eid, List.map_id] at e2
            have eR : R = ⟨(q.2.1 : Int), bytesA ((x.drop m0).take q.2.2), ((i + m0 : Nat) : Int)⟩ :: R2 := by
              rw [e2] at hr
              have := congrArg Prod.fst hr; simp only [List.append_assoc] at this
              have := List.append_cancel_left this; rw [← this]; rfl
            have hk2 : k < R2.length := by rw [eR] at hk; simpa using hk
            obtain ⟨m', g1, g2, g3⟩ := run_ins hb f _ (i + m0 + q.2.2) _ R2 k hl2 e2 hk2
            rw [List.length_drop, List.length_drop] at g1
            have hbk : blankish (b ++ x.drop (m0 + q.2.2 + m')) := by
              obtain ⟨c, t, rfl, hc⟩ := six_ne hb
              exact ⟨c, _, rfl, hc⟩
            refine ⟨m0 + q.2.2 + m', by omega, ?_, ?_⟩
            · rw [eR]
              show (R2.getD k z32).f2 = _
              rw [g2]; congr 1; omega
            · have hB : blk false (x.take (m0 + q.2.2 + m') ++ (b ++ x.drop (m0 + q.2.2 + m'))) = m0 := by
                rw [blk_pre _ _ _ _ (by omega) (by omega), hm0]
              have hD : (x.take (m0 + q.2.2 + m') ++ (b ++ x.drop (m0 + q.2.2 + m'))).drop m0 = (x.drop m0).take (q.2.2 + m') ++ (b ++ x.drop (m0 + q.2.2 + m')) := by
                rw [List.drop_append_of_le_length (by rw [List.length_take]; omega), List.drop_take, show m0 + q.2.2 + m' - m0 = q.2.2 + m' by omega]
              have hF : fst ((x.drop m0).take (q.2.2 + m') ++ (b ++ x.drop (m0 + q.2.2 + m'))) = q := by
                rw [fst_ins _ _ _ hbk (by rw [hq]; exact h2') (by rw [hq]; omega) (by rw [List.length_drop]; omega), hq]
              have hne : (x.drop m0).take (q.2.2 + m') ++ (b ++ x.drop (m0 + q.2.2 + m')) ≠ [] := by
                intro z; have := congrArg List.length z; rw [List.length_append, List.length_take, List.length_drop] at this; simp at this; omega
              have hD2 : ((x.drop m0).take (q.2.2 + m') ++ (b ++ x.drop (m0 + q.2.2 + m'))).drop q.2.2 = ((x.drop m0).drop q.2.2).take m' ++ b ++ ((x.drop m0).drop q.2.2).drop m' := by
                rw [List.drop_append_of_le_length (by rw [List.length_take, List.length_drop]; omega), List.drop_take, Nat.add_sub_cancel_left, List.drop_drop, List.drop_drop, List.append_assoc]
              have hT2 : ((x.drop m0).take (q.2.2 + m') ++ (b ++ x.drop (m0 + q.2.2 + m'))).take q.2.2 = (x.drop m0).take q.2.2 := by
                rw [List.take_append_of_le_length (by rw [List.length_take, List.length_drop]; omega), List.take_take, Nat.min_eq_left (by omega)]
              rw [List.append_assoc, run, hB, hD, if_neg hne, hF, if_neg h2, if_neg h3, hD2, hT2, g3, eR]
              simp
end Go.Proofs.Ytdcjgibdfpldgaa
