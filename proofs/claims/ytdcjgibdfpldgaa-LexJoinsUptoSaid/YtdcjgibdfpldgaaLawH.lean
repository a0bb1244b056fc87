/- The printed function Tokens of the reference answers as the plain words say; same and works answer true. -/
import Derived.Test.YtdcjgibdfpldgaaLawG
import Derived.Test.YtdcjgibdfpldgaaPLex9
namespace Go.Proofs.Ytdcjgibdfpldgaa
set_option linter.unusedVariables false
set_option linter.unusedSimpArgs false
open Go.RowKit Go.Proofs.Ytdcjgibdfpldgaa.PLex Go.Proofs.YtdcjgibdfpldgaaW.PrintWords

theorem rj2_err (s : ByteArray) (out : List S32) (a x11 y0 : Int) (y1 : ByteArray) (y2 : Int) : Ev (fun k => cuspref24_Tokens.j2 k s out a x11 true y0 y1 y2) ([], a, 2) :=
  Ev.step (f := fun _ => some ([], a, 2)) (fun k => by simp only [cuspref24_Tokens.j2]; rw [if_pos trivial]) (Ev.now _)
theorem rj2_full (s : ByteArray) (out : List S32) (a x11 y0 : Int) (y1 : ByteArray) (y2 : Int) (h : out.length = 65536) : Ev (fun k => cuspref24_Tokens.j2 k s out a x11 false y0 y1 y2) ([], a, 271) :=
  Ev.step (f := fun _ => some ([], a, 271)) (fun k => by simp only [cuspref24_Tokens.j2]; rw [if_neg (by simp), if_pos (by omega)]) (Ev.now _)
theorem rj2_on (s : ByteArray) (hs : s.size ≤ 1048576) (out : List S32) (a n : Nat) (y0 : Int) (y1 : ByteArray) (h : out.length < 65536) (han : a + n ≤ s.size) (r : List S32 × Int × Int)
    (H : Ev (fun k => cuspref24_Tokens.l0 k s (out ++ [⟨y0, bytesA ((s.data.toList.drop a).take n), (a : Int)⟩]) ((a + n + blk false (s.data.toList.drop (a + n)) : Nat) : Int)) r) : Ev (fun k => cuspref24_Tokens.j2 k s out (a : Int) (n : Int) false y0 y1 (a : Int)) r := by
  have W : wrap64 ((a : Int) + (n : Int)) = ((a + n : Nat) : Int) := by rw [w64] <;> omega
  have B := rblank s (by omega) (a + n) han
  have ex : s.extract a (a + n) = bytesA ((s.data.toList.drop a).take n) := by
    rw [ext_b, List.drop_take, show a + n - a = n by omega]
  refine Ev.step (fun k => ?_) (Ev.bind B H)
  simp only [cuspref24_Tokens.j2]
  rw [if_neg (by simp), if_neg (by omega), W, if_pos (by omega), if_pos (by omega), if_pos (by omega), if_pos (by omega), Int.toNat_natCast, Int.toNat_natCast, ex]

theorem rj1 (s : ByteArray) (out : List S32) (a : Int) (many m : Nat) (x11 y0 : Int) (y1 : ByteArray) (y2 : Int) (b : Bool) (hb : b = decide (many > 1100 ∨ m > 64)) (r : List S32 × Int × Int)
    (H : Ev (fun k => cuspref24_Tokens.j2 k s out a x11 b y0 y1 y2) r) : Ev (fun k => cuspref24_Tokens.j1 k s out a (many : Int) (m : Int) x11 y0 y1 y2) r := by
  refine Ev.step (fun k => ?_) H
  simp only [cuspref24_Tokens.j1]
  by_cases h : many > 1100
  · rw [if_pos (by omega), show b = true by rw [hb]; simp [h]]
  · rw [if_neg (by omega)]
    have : b = decide ((m : Int) > 64) := by rw [hb, decide_eq_decide]; omega
    rw [this]

/-- No number begins with a letter. -/
theorem num_let (l : List UInt8) (h : nm l > 0) : num l = (0, 0) := by
  cases l with
  | nil => simp [nm] at h
  | cons c t =>
    simp only [nm] at h
    have hc : isLet c = true := by
      by_cases e : isLet c = true
      · exact e
      · rw [if_neg e] at h; omega
    have h1 : isDig c = false := by unfold isLet at hc; unfold isDig; simp at hc ⊢; omega
    have h2 : c ≠ 46 := by intro e; subst e; exact absurd hc (by decide)
    have h3 : digs (c :: t) = 0 := by rw [digs_cons, h1]; simp
    have : mant (c :: t) = (0, 0) := by unfold mant; rw [h3, if_neg (by simpa using h2)]
    unfold num; rw [this]; simp

theorem rtokens_l0 (s : ByteArray) (hs : s.size ≤ 1048576) : ∀ (f i : Nat) (out : List S32), i ≤ s.size → s.size - i < f → out.length ≤ 65536 →
    Ev (fun k => cuspref24_Tokens.l0 k s out ((i + blk false (s.data.toList.drop i) : Nat) : Int)) (run f (s.data.toList.drop i) i out)
  | 0, i, out, hi, hf, ho => by omega
  | f + 1, i, out, hi, hf, ho => by
    have hL : s.size ≤ Lim := by unfold Lim; omega
    have hb := blk_le false (s.data.toList.drop i)
    rw [List.length_drop, szl] at hb
    obtain ⟨b, eb⟩ : ∃ b, blk false (s.data.toList.drop i) = b := ⟨_, rfl⟩
    rw [eb] at hb
    rw [run, eb, List.drop_drop]
    by_cases hend : i + b < s.size
    · have hl : i + b < s.data.toList.length := by rw [szl]; exact hend
      have hne : s.data.toList.drop (i + b) ≠ [] := by
        intro h; have := congrArg List.length h; rw [List.length_drop, szl] at this; simp at this; omega
      rw [if_neg hne]
      have hhead : (s.data.toList.drop (i + b)).head? = some (s.data.toList[i + b]'hl) := head_drop _ _ hl
      have N := rnumber s hL (i + b) (by omega)
      have M := rname s hL (i + b) (by omega)
      have SG := rsign (s.data.toList[i + b]'hl)
      have hbt := bt_eq s (i + b) hl
      have hnl := num_let (s.data.toList.drop (i + b))
      have hlen := fst_len (s.data.toList.drop (i + b))
      rw [List.length_drop, szl] at hlen
      refine Ev.step (f := fun k => (cuspref24_number.f k s ((i + b : Nat) : Int)).bind fun bt134 => ((cuspref24_name.f k s ((i + b : Nat) : Int)).bind fun t136 => (if bt134.1 > 0 then (cuspref24_Tokens.j1 k s out ((i + b : Nat) : Int) bt134.2 t136 bt134.1 1 (⟨#[]⟩ : ByteArray) ((i + b : Nat) : Int)) else (if t136 > 0 then (cuspref24_Tokens.j1 k s out ((i + b : Nat) : Int) bt134.2 t136 t136 2 (⟨#[]⟩ : ByteArray) ((i + b : Nat) : Int)) else (if 0 ≤ ((i + b : Nat) : Int) then ((cuspref24_sign.f k (bt s ((i + b : Nat) : Int))).bind fun t138 => (if t138 = true then (cuspref24_Tokens.j1 k s out ((i + b : Nat) : Int) bt134.2 t136 1 3 (⟨#[]⟩ : ByteArray) ((i + b : Nat) : Int)) else (some (([] : List (S32)), ((i + b : Nat) : Int), 240)))) else (none)))))) (fun k => ?_) ?_
      · simp only [cuspref24_Tokens.l0]; rw [if_pos (by omega)]
      · refine Ev.bind N (Ev.bind M ?_)
        obtain ⟨q, eq⟩ : ∃ q, num (s.data.toList.drop (i + b)) = q := ⟨_, rfl⟩
        obtain ⟨m, em⟩ : ∃ m, nm (s.data.toList.drop (i + b)) = m := ⟨_, rfl⟩
        rw [eq, em]; rw [eq, em] at hnl
        have ON : ∀ (kd n : Nat), fst (s.data.toList.drop (i + b)) = (0, kd, n) → kd ≠ 0 → out.length ≠ 65536 → ∀ (many mm : Nat), ¬ (many > 1100 ∨ mm > 64) →
            Ev (fun k => cuspref24_Tokens.j1 k s out ((i + b : Nat) : Int) (many : Int) (mm : Int) (n : Int) (kd : Int) (⟨#[]⟩ : ByteArray) ((i + b : Nat) : Int))
              (run f ((s.data.toList.drop (i + b)).drop n) (i + b + n) (out ++ [⟨(kd : Int), bytesA ((s.data.toList.drop (i + b)).take n), ((i + b : Nat) : Int)⟩])) := by
          intro kd n hf1 hk ho2 many mm hmm
          rw [hf1] at hlen
          have hln : 0 < n ∧ n ≤ s.size - (i + b) := ⟨(hlen rfl).1, (hlen rfl).2.1⟩
          refine rj1 _ _ _ _ _ _ _ _ _ false (by rw [decide_eq_false hmm]) _ ?_
          refine rj2_on s hs out (i + b) n _ _ (by omega) (by omega) _ ?_
          rw [List.drop_drop]
          exact rtokens_l0 s hs f (i + b + n) _ (by omega) (by omega) (by rw [List.length_append]; simp; omega)
        have FULL : out.length = 65536 → ∀ (n kd : Int) (many mm : Nat), ¬ (many > 1100 ∨ mm > 64) → Ev (fun k => cuspref24_Tokens.j1 k s out ((i + b : Nat) : Int) (many : Int) (mm : Int) n kd (⟨#[]⟩ : ByteArray) ((i + b : Nat) : Int)) ([], ((i + b : Nat) : Int), 271) := by
          intro ho2 n kd many mm hmm
          exact rj1 _ _ _ _ _ _ _ _ _ false (by rw [decide_eq_false hmm]) _ (rj2_full _ _ _ _ _ _ _ ho2)
        have LONG : ∀ (n kd : Int) (many mm : Nat), (many > 1100 ∨ mm > 64) → Ev (fun k => cuspref24_Tokens.j1 k s out ((i + b : Nat) : Int) (many : Int) (mm : Int) n kd (⟨#[]⟩ : ByteArray) ((i + b : Nat) : Int)) ([], ((i + b : Nat) : Int), 2) := by
          intro n kd many mm hmm
          exact rj1 _ _ _ _ _ _ _ _ _ true (by rw [decide_eq_true hmm]) _ (rj2_err _ _ _ _ _ _ _)
        have OKS : ∀ (kd n : Nat), fst (s.data.toList.drop (i + b)) = (0, kd, n) → kd ≠ 0 → ∀ (many mm : Nat), ¬ (many > 1100 ∨ mm > 64) →
            Ev (fun k => cuspref24_Tokens.j1 k s out ((i + b : Nat) : Int) (many : Int) (mm : Int) (n : Int) (kd : Int) (⟨#[]⟩ : ByteArray) ((i + b : Nat) : Int))
              (if out.length = 65536 then ([], ((i + b : Nat) : Int), 271) else run f ((s.data.toList.drop (i + b)).drop n) (i + b + n) (out ++ [⟨(kd : Int), bytesA ((s.data.toList.drop (i + b)).take n), ((i + b : Nat) : Int)⟩])) := by
          intro kd n hf1 hk many mm hmm
          by_cases ho2 : out.length = 65536
          · rw [if_pos ho2]; exact FULL ho2 _ _ _ _ hmm
          · rw [if_neg ho2]; exact ON kd n hf1 hk ho2 _ _ hmm
        by_cases h1 : q.1 > 0
        · have hm0 : m = 0 := by
            rcases Nat.eq_zero_or_pos m with h | h
            · exact h
            · have := hnl h; rw [this] at h1; simp at h1
          refine Ev.congr (fun k => if_pos (by show (q.1 : Int) > 0; omega)) ?_
          by_cases h2 : q.2 > 1100
          · have e1 : fst (s.data.toList.drop (i + b)) = (2, 0, 0) := by unfold fst; rw [em, if_neg (by omega), eq, if_pos h1, if_pos h2]
            rw [e1, if_pos (by simp)]
            exact LONG _ _ _ _ (.inl h2)
          · have e1 : fst (s.data.toList.drop (i + b)) = (0, 1, q.1) := by unfold fst; rw [em, if_neg (by omega), eq, if_pos h1, if_neg h2]
            have := OKS 1 q.1 e1 (by omega) q.2 m (by omega)
            rw [e1, if_neg (by simp)]; exact this
        · refine Ev.congr (fun k => if_neg (by show ¬ (q.1 : Int) > 0; omega)) ?_
          by_cases h2 : m > 0
          · have hq0 : q = (0, 0) := hnl h2
            refine Ev.congr (fun k => if_pos (by omega)) ?_
            by_cases h3 : m > 64
            · have e1 : fst (s.data.toList.drop (i + b)) = (2, 0, 0) := by unfold fst; rw [em, if_pos h2, if_pos h3]
              rw [e1, if_pos (by simp)]
              exact LONG _ _ _ _ (.inr h3)
            · have e1 : fst (s.data.toList.drop (i + b)) = (0, 2, m) := by unfold fst; rw [em, if_pos h2, if_neg h3]
              have := OKS 2 m e1 (by omega) q.2 m (by rw [hq0]; simp; omega)
              rw [e1, if_neg (by simp)]; exact this
          · refine Ev.congr (fun k => if_neg (by omega)) ?_
            refine Ev.congr (fun k => if_pos (by omega)) ?_
            rw [hbt]
            refine Ev.bind SG ?_
            have hq2 : q.2 ≤ 1100 := by
              have : (num (s.data.toList.drop (i + b))).2 = 0 ∨ (num (s.data.toList.drop (i + b))).1 > 0 := by
                unfold num; split
                · left; rfl
                · rename_i hz; right; have := (mant_le (s.data.toList.drop (i + b))).2; show _ + _ > 0; omega
              rw [eq] at this; omega
            by_cases h3 : isSign s.data.toList[i + b] = true
            · refine Ev.congr (fun k => if_pos h3) ?_
              have e1 : fst (s.data.toList.drop (i + b)) = (0, 3, 1) := by unfold fst; rw [em, if_neg h2, eq, if_neg h1, if_pos (by rw [hhead]; simpa using h3)]
              have := OKS 3 1 e1 (by omega) q.2 m (by omega)
              rw [e1, if_neg (by simp)]; exact this
            · refine Ev.congr (fun k => if_neg h3) ?_
              have e1 : fst (s.data.toList.drop (i + b)) = (240, 0, 0) := by unfold fst; rw [em, if_neg h2, eq, if_neg h1, if_neg (by rw [hhead]; simpa using h3)]
              rw [e1, if_pos (by simp)]; exact Ev.now _
    · have hnil : s.data.toList.drop (i + b) = [] := List.drop_of_length_le (by rw [szl]; omega)
      have hib : i + b = s.size := by omega
      rw [if_pos hnil, hib]
      by_cases ho2 : out.length = 65536
      · rw [if_pos ho2]
        exact Ev.step (f := fun _ => some ([], (s.size : Int), 271)) (fun k => by simp only [cuspref24_Tokens.l0]; rw [if_neg (by omega), if_pos (by omega)]) (Ev.now _)
      · rw [if_neg ho2]
        exact Ev.step (f := fun _ => some (out ++ [⟨0, ⟨#[]⟩, (s.size : Int)⟩], 0, 0)) (fun k => by simp only [cuspref24_Tokens.l0]; rw [if_neg (by omega), if_neg (by omega), if_pos (by omega)]) (Ev.now _)

theorem rTokens_ev (s : ByteArray) : Ev (fun k => cuspref24_Tokens.f k s) (tokR s.data.toList) := by
  unfold tokR cuspref24_Tokens.f; rw [szl]
  by_cases h : s.size > 1048576
  · rw [if_pos h]; refine Ev.congr (f := fun _ => some ([], 0, 2)) (fun k => by rw [if_pos (by omega)]) (Ev.now _)
  · rw [if_neg h]
    refine Ev.congr (f := fun k => (cuspref24_blank.f k s ((0 : Nat) : Int)).bind fun t => cuspref24_Tokens.l0 k s [] t) (fun k => by rw [if_neg (by omega)]; rfl) ?_
    refine Ev.bind (rblank s (by omega) 0 (by omega)) ?_
    exact rtokens_l0 s (by omega) (s.size + 1) 0 [] (by omega) (by omega) (by simp)
end Go.Proofs.Ytdcjgibdfpldgaa
