/- What the tokens of a text look like; the tokens of what is joined. -/
import Derived.Test.YtdcjgibdfpldgaaBackA
import Derived.Test.YtdcjgibdfpldgaaJoin
namespace Go.Proofs.Ytdcjgibdfpldgaa
set_option linter.unusedVariables false
set_option linter.unusedSimpArgs false
open Go.RowKit Go.Proofs.Ytdcjgibdfpldgaa.PLex Go.Proofs.YtdcjgibdfpldgaaW.PrintWords

/-- A token that stands in a text. -/
def okTok (s : List UInt8) (t : S32) : Prop := ∃ k p n : Nat, t = ⟨(k : Int), bytesA ((s.drop p).take n), (p : Int)⟩ ∧ p + n ≤ s.length ∧ goodT k ((s.drop p).take n)
def endT (n : Nat) : S32 := ⟨0, ⟨#[]⟩, (n : Int)⟩

theorem run_err : ∀ (f : Nat) (l : List UInt8) (i : Nat) (out : List S32), (run f l i out).2.2 ≠ 0 → (run f l i out).1 = []
  | 0, _, _, _, h => by simp [run] at h
  | f + 1, l, i, out, h => by
    rw [run] at h ⊢
    split
    · rename_i e; rw [if_pos e] at h
      split
      · rfl
      · rename_i g; rw [if_neg g] at h; exact absurd rfl h
    · rename_i e; rw [if_neg e] at h
      split
      · rfl
      · rename_i g; rw [if_neg g] at h
        split
        · rfl
        · rename_i j; rw [if_neg j] at h; exact run_err f _ _ _ h
theorem run_shape (s : List UInt8) : ∀ (f i : Nat) (out : List S32), i ≤ s.length → s.length - i < f → out.length ≤ 65536 → (run f (s.drop i) i out).2.2 = 0 →
    ∃ T, run f (s.drop i) i out = (out ++ T ++ [endT s.length], 0, 0) ∧ (∀ t ∈ T, okTok s t) ∧ out.length + T.length + 1 ≤ 65536
  | 0, i, out, hi, hf, ho, h => by omega
  | f + 1, i, out, hi, hf, ho, h => by
    have hb := blk_le false (s.drop i)
    rw [List.length_drop] at hb
    obtain ⟨b, eb⟩ : ∃ b, blk false (s.drop i) = b := ⟨_, rfl⟩
    rw [run, eb, List.drop_drop] at h ⊢
    rw [eb] at hb
    by_cases hend : s.drop (i + b) = []
    · rw [if_pos hend] at h ⊢
      have hl : s.length ≤ i + b := by
        have := congrArg List.length hend; rw [List.length_drop] at this; simp at this; omega
      by_cases ho2 : out.length = 65536
      · rw [if_pos ho2] at h; simp at h
      · rw [if_neg ho2, show i + b = s.length by omega]
        exact ⟨[], by simp [endT], by simp, by simp; omega⟩
    · have hl : i + b < s.length := by
        rcases Nat.lt_or_ge (i + b) s.length with h' | h'
        · exact h'
        · exact absurd (List.drop_of_length_le h') hend
      rw [if_neg hend] at h ⊢
      by_cases he : (fst (s.drop (i + b))).1 = 0
      · have hn := fst_len _ he
        have hg := good_fst _ he
        rw [List.length_drop] at hn
        obtain ⟨q, eq⟩ : ∃ q, fst (s.drop (i + b)) = q := ⟨_, rfl⟩
        rw [eq] at h ⊢ he hn hg
        rw [if_neg (by simpa using he)] at h ⊢
        by_cases ho2 : out.length = 65536
        · rw [if_pos ho2] at h; simp at h
        · rw [if_neg ho2, List.drop_drop] at h ⊢
          obtain ⟨T, h1, h2, h3⟩ := run_shape s f (i + b + q.2.2) _ (by omega) (by omega) (by rw [List.length_append]; simp; omega) h
          refine ⟨⟨(q.2.1 : Int), bytesA ((s.drop (i + b)).take q.2.2), ((i + b : Nat) : Int)⟩ :: T, ?_, ?_, ?_⟩
          · rw [h1]; simp
          · intro t ht
            rcases List.mem_cons.mp ht with rfl | ht
            · exact ⟨q.2.1, i + b, q.2.2, rfl, by omega, hg⟩
            · exact h2 t ht
          · rw [List.length_append] at h3; simp at h3 ⊢; omega
      · rw [if_pos he] at h; simp at h; omega

/-- The same kinds and texts. -/
def sameKT : List S32 → List S32 → Prop
  | [], [] => True
  | a :: x, b :: y => a.f0 = b.f0 ∧ a.f1.data.toList = b.f1.data.toList ∧ sameKT x y
  | _, _ => False
theorem sameKT_len : ∀ x y, sameKT x y → x.length = y.length
  | [], [], _ => rfl
  | a :: x, b :: y, h => by simp [sameKT_len x y h.2.2]
  | [], _ :: _, h => absurd h (by simp [sameKT])
  | _ :: _, [], h => absurd h (by simp [sameKT])
theorem sameKT_get : ∀ (x y : List S32) (i : Nat), sameKT x y → i < x.length → (x.getD i z32).f0 = (y.getD i z32).f0 ∧ (x.getD i z32).f1.data.toList = (y.getD i z32).f1.data.toList
  | [], _, _, _, h => by simp at h
  | a :: x, b :: y, 0, h, _ => ⟨h.1, h.2.1⟩
  | a :: x, b :: y, i + 1, h, hi => by
    have := sameKT_get x y i h.2.2 (by simpa using hi); simpa using this
  | _ :: _, [], _, h, _ => absurd h (by simp [sameKT])
theorem sameKT_app : ∀ (x y u v : List S32), sameKT x y → sameKT u v → sameKT (x ++ u) (y ++ v)
  | [], [], _, _, _, h => h
  | a :: x, b :: y, u, v, h, g => ⟨h.1, h.2.1, sameKT_app x y u v h.2.2 g⟩
  | [], _ :: _, _, _, h, _ => absurd h (by simp [sameKT])
  | _ :: _, [], _, _, h, _ => absurd h (by simp [sameKT])

def goodS (t : S32) : Prop := ∃ k : Nat, t.f0 = (k : Int) ∧ goodT k t.f1.data.toList
theorem sep_32 (x : List UInt8) : sep (32 :: x) := fun c h => by
  simp at h; subst h; decide
theorem wordy_of {t : S32} {k : Nat} (h : t.f0 = (k : Int)) (hk : k = 1 ∨ k = 2) : wordyB t = true := by
  unfold wordyB; rw [h]; rcases hk with rfl | rfl <;> rfl
theorem wordy_not {t : S32} (h : t.f0 = 3 ∨ t.f0 = 0) : wordyB t = false := by
  unfold wordyB; rcases h with h | h <;> rw [h] <;> rfl
/-- Behind a word stands a blank, a sign or nothing. -/
theorem sep_join (T : List S32) (n : Nat) (h : ∀ t ∈ T, goodS t) : sep (joinL true (T ++ [endT n])) := by
  cases T with
  | nil => simp only [List.nil_append, joinL]; rw [if_neg (by rw [wordy_not (.inr rfl)]; simp)]; exact sep_nil
  | cons u r =>
    obtain ⟨k, hk, hg⟩ := h u (by simp)
    simp only [List.cons_append, joinL]
    rcases good_kind k _ hg with h1 | h1 | h1
    · rw [if_pos ⟨trivial, wordy_of hk (.inl h1)⟩]; exact sep_32 _
    · rw [if_pos ⟨trivial, wordy_of hk (.inr h1)⟩]; exact sep_32 _
    · rw [if_neg (by rw [wordy_not (.inl (by rw [hk, h1]; rfl))]; simp), List.nil_append]
      subst h1
      have hs : signB u.f1.data.toList = true := by
        rcases hg with ⟨h, _⟩ | ⟨h, _⟩ | ⟨_, h⟩
        · omega
        · omega
        · exact h
      have h' := of_decide_eq_true hs
      obtain ⟨c, hc⟩ := List.length_eq_one_iff.mp h'.1
      rw [hc] at h' ⊢
      obtain ⟨f1, f2, f3, _⟩ := sign_facts c (by simpa using h'.2)
      intro d hd
      simp at hd; subst hd
      exact ⟨by unfold isLD; rw [f1, f2]; rfl, f3⟩

theorem run_join : ∀ (T : List S32) (p : Bool) (f at_ n : Nat) (out : List S32), (∀ t ∈ T, goodS t) → T.length + 1 ≤ f → out.length + T.length + 1 ≤ 65536 →
    ∃ T' a, run f (joinL p (T ++ [endT n])) at_ out = (out ++ T' ++ [endT a], 0, 0) ∧ sameKT T' T
  | [], p, 0, at_, n, out, hg, hf, ho => by simp at hf
  | [], p, f + 1, at_, n, out, hg, hf, ho => by
    have e : joinL p ([] ++ [endT n]) = [] := by
      simp only [List.nil_append, joinL]; rw [if_neg (by rw [wordy_not (.inr rfl)]; simp)]; rfl
    rw [e, run]
    have hb : blk false [] = 0 := rfl
    rw [hb, List.drop_nil, if_pos rfl, if_neg (by simp at ho; omega)]
    exact ⟨[], at_ + 0, by simp [endT], trivial⟩
  | t :: T, p, 0, at_, n, out, hg, hf, ho => by simp at hf
  | t :: T, p, f + 1, at_, n, out, hg, hf, ho => by
    obtain ⟨k, hk, hgt⟩ := hg t (by simp)
    have hgT : ∀ t ∈ T, goodS t := fun u hu => hg u (by simp [hu])
    simp only [List.length_cons] at hf ho
    have hr : k = 3 ∨ sep (joinL (wordyB t) (T ++ [endT n])) := by
      rcases good_kind k _ hgt with h1 | h1 | h1
      · right; rw [wordy_of hk (.inl h1)]; exact sep_join T n hgT
      · right; rw [wordy_of hk (.inr h1)]; exact sep_join T n hgT
      · exact .inl h1
    have hF := fst_good k t.f1.data.toList (joinL (wordyB t) (T ++ [endT n])) hgt hr
    have hB := blk_good k t.f1.data.toList (joinL (wordyB t) (T ++ [endT n])) hgt
    have hne := good_ne k _ hgt
    simp only [List.cons_append, joinL]
    obtain ⟨b, hb1, hb2⟩ : ∃ b, blk false ((if p = true ∧ wordyB t = true then [32] else []) ++ t.f1.data.toList ++ joinL (wordyB t) (T ++ [endT n])) = b ∧
        ((if p = true ∧ wordyB t = true then [32] else []) ++ t.f1.data.toList ++ joinL (wordyB t) (T ++ [endT n])).drop b = t.f1.data.toList ++ joinL (wordyB t) (T ++ [endT n]) := by
      by_cases c : p = true ∧ wordyB t = true
      · rw [if_pos c]
        refine ⟨1, ?_, by simp⟩
        simp only [List.cons_append, List.nil_append, blk]
        rw [if_pos (by simp), hB]
      · rw [if_neg c]
        exact ⟨0, by rw [List.nil_append, hB], by simp⟩
    rw [run, hb1, hb2, if_neg (by simp [hne]), hF, if_neg (by simp), if_neg (by omega)]
    simp only
    rw [List.drop_left, List.take_left]
    obtain ⟨T', a, h1, h2⟩ := run_join T (wordyB t) f (at_ + b + t.f1.data.toList.length) n (out ++ [⟨(k : Int), bytesA t.f1.data.toList, ((at_ + b : Nat) : Int)⟩]) hgT (by omega) (by rw [List.length_append]; simp; omega)
    refine ⟨⟨(k : Int), bytesA t.f1.data.toList, ((at_ + b : Nat) : Int)⟩ :: T', a, ?_, ⟨hk.symm, bytesA_list _, h2⟩⟩
    rw [h1]; simp
theorem joinL_len (n : Nat) : ∀ (T : List S32) (p : Bool), (∀ t ∈ T, goodS t) → T.length ≤ (joinL p (T ++ [endT n])).length
  | [], p, _ => by simp
  | t :: T, p, h => by
    obtain ⟨k, _, hg⟩ := h t (by simp)
    have h0 := List.length_pos_iff.mpr (good_ne k _ hg)
    have := joinL_len n T (wordyB t) (fun u hu => h u (by simp [hu]))
    simp only [List.cons_append, joinL, List.length_append, List.length_cons]; omega
end Go.Proofs.Ytdcjgibdfpldgaa
