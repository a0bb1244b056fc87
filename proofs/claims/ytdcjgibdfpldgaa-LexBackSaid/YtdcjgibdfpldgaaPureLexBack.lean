/- What is joined is cut into tokens of the same kinds and texts; each text stands at its place; for every text. No condition beyond the form's own reach. -/
import Derived.Test.YtdcjgibdfpldgaaBackB
import Derived.Test.YtdcjgibdfpldgaaPLex12
namespace Go.Proofs.Ytdcjgibdfpldgaa.Pure
set_option linter.unusedVariables false
set_option linter.unusedSimpArgs false
open Go.RowKit Go.Proofs.Ytdcjgibdfpldgaa.PLex Go.Proofs.Ytdcjgibdfpldgaa Go.Proofs.YtdcjgibdfpldgaaW.PrintWords Go.Proofs.YtdcjgibdfpldgaaW.PrintLast

theorem rd_nat (l : List S32) (i : Nat) (h : i < l.length) : rd_T32 l (i : Int) = l[i] := by
  unfold rd_T32; simp [List.getD, h]
theorem works2 : Ev (fun k => (cusplaw24_works.f k).bind fun t => some t) true := Ev.bind works_ev (Ev.now _)

theorem back_l1 (x y : List S32) (hx : x.length ≤ 65536) (hy : sameKT y x) : ∀ (d i : Nat), x.length - i = d → i ≤ x.length → Ev (fun k => cusplaw24_LexBack.l1 k x y (i : Int)) true
  | 0, i, hd, hi => by
    refine Ev.step (fun k => ?_) works2
    simp only [cusplaw24_LexBack.l1]; rw [if_neg (by omega)]
  | d + 1, i, hd, hi => by
    have hl := sameKT_len y x hy
    have W : wrap64 ((i : Int) + 1) = ((i + 1 : Nat) : Int) := by rw [w64] <;> omega
    obtain ⟨g1, g2⟩ := sameKT_get y x i hy (by omega)
    have h1 : (rd_T32 y (i : Int)).f0 = (rd_T32 x (i : Int)).f0 := g1
    have h2 : (rd_T32 y (i : Int)).f1.toList = (rd_T32 x (i : Int)).f1.toList := by rw [Go.ByteArray.toList_eq, Go.ByteArray.toList_eq]; exact g2
    refine Ev.step (fun k => ?_) (back_l1 x y hx hy d (i + 1) (by omega) (by omega))
    simp only [cusplaw24_LexBack.l1]
    rw [if_pos (by omega), if_pos (by omega), if_pos (by omega), if_pos h1, if_pos h2, W]

theorem back_l0 (s : ByteArray) (hs : s.size ≤ 1048576) (T : List S32) (hT : ∀ t ∈ T, okTok s.data.toList t) (hlen : T.length + 1 ≤ 65536)
    (E : Ev (fun k => (lex_Join.f (T ++ [endT s.size])).bind fun bt252 => (if bt252.2 = 2 then ((cusplaw24_works.f k).bind fun t254 => (some t254)) else ((lex_Tokens.f k bt252.1).bind fun bt255 => (if bt252.2 = 0 then (if bt255.2.2 = 0 then (cusplaw24_LexBack.j1 k (T ++ [endT s.size]) bt255.1 ((bt255.1.length : Int) != ((T ++ [endT s.size]).length : Int))) else (cusplaw24_LexBack.j1 k (T ++ [endT s.size]) bt255.1 true)) else (cusplaw24_LexBack.j1 k (T ++ [endT s.size]) bt255.1 true))))) true) :
    ∀ (d i : Nat), T.length + 1 - i = d → i ≤ T.length + 1 → Ev (fun k => cusplaw24_LexBack.l0 k s (T ++ [endT s.size]) (i : Int)) true
  | 0, i, hd, hi => by
    refine Ev.step (fun k => ?_) E
    simp only [cusplaw24_LexBack.l0]
    rw [if_neg (by rw [List.length_append]; simp; omega)]
  | d + 1, i, hd, hi => by
    have hL : (T ++ [endT s.size]).length = T.length + 1 := by simp
    have W : wrap64 ((i : Int) + 1) = ((i + 1 : Nat) : Int) := by rw [w64] <;> omega
    have W2 : wrap64 (((T ++ [endT s.size]).length : Int) - 1) = (T.length : Int) := by rw [hL, w64] <;> omega
    refine Ev.step (fun k => ?_) (back_l0 s hs T hT hlen E d (i + 1) (by omega) (by omega))
    -- the token
    have key : ∃ (kd p n : Nat), rd_T32 (T ++ [endT s.size]) (i : Int) = ⟨(kd : Int), bytesA ((s.data.toList.drop p).take n), (p : Int)⟩ ∧ p + n ≤ s.size ∧ (((kd : Int) == 0) = decide (i = T.length)) := by
      by_cases hi2 : i < T.length
      · have e : rd_T32 (T ++ [endT s.size]) (i : Int) = T[i] := by rw [rd_nat _ _ (by omega), List.getElem_append_left hi2]
        obtain ⟨kd, p, n, h1, h2, h3⟩ := hT T[i] (List.getElem_mem hi2)
        refine ⟨kd, p, n, by rw [e, h1], by rwa [szl] at h2, ?_⟩
        have := good_kind _ _ h3
        rw [decide_eq_false (by omega), beq_eq_false_iff_ne]; omega
      · have e : i = T.length := by omega
        refine ⟨0, s.size, 0, ?_, by omega, by rw [decide_eq_true e]; rfl⟩
        rw [rd_nat _ _ (by omega)]
        subst e; simp [endT, bytesA]
    obtain ⟨kd, p, n, e, hp, hk⟩ := key
    have hsz : (bytesA ((s.data.toList.drop p).take n)).size = n := by rw [bytesA_size, List.length_take, List.length_drop, szl]; omega
    simp only [cusplaw24_LexBack.l0]
    rw [if_pos (by omega), if_pos (by omega), e]
    simp only
    rw [hsz, W2, w64 (x := (s.size : Int) - (p : Int)) (by omega) (by omega), w64 (x := (p : Int) + (n : Int)) (by omega) (by omega)]
    rw [if_neg (by omega), if_neg (by omega), if_neg (by omega), if_pos (by omega), if_pos (by omega), if_pos (by omega)]
    have ex : s.extract (p : Int).toNat ((p : Int) + (n : Int)).toNat = bytesA ((s.data.toList.drop p).take n) := by
      rw [ext_b, List.drop_take, show ((p : Int) + (n : Int)).toNat - (p : Int).toNat = n by omega, Int.toNat_natCast]
    rw [if_pos (by rw [ex]), if_neg (by
      rw [hk]
      have : ((i : Int) == (T.length : Int)) = decide (i = T.length) := by rw [Bool.eq_iff_iff]; simp; omega
      rw [this]; simp), W]

theorem okFrom_T (s : List UInt8) : ∀ (T : List S32) (i n : Nat), (∀ t ∈ T, okTok s t) → n = i + T.length + 1 → okFrom n i (T ++ [endT s.length]) = true
  | [], i, n, _, hn => by
    simp only [List.nil_append, okFrom, okAt, endT]
    simp at hn
    rw [show validB 0 (⟨#[]⟩ : ByteArray).data.toList (s.length : Int) = true by unfold validB; rw [if_neg (by omega)]; rfl, decide_eq_true hn.symm]; rfl
  | t :: T, i, n, h, hn => by
    obtain ⟨k, p, m, h1, h2, h3⟩ := h t (by simp)
    simp only [List.length_cons] at hn
    have h4 := good_kind _ _ h3
    simp only [List.cons_append, okFrom, okAt]
    rw [okFrom_T s T (i + 1) n (fun u hu => h u (by simp [hu])) (by omega), h1]
    simp only
    rw [bytesA_list, good_valid k _ _ (by omega) h3, decide_eq_false (show ¬ (k : Int) = 0 by omega), decide_eq_false (show ¬ i + 1 = n by omega)]; rfl

theorem LexBack : cusplaw24_LexBack.Pure := by
  intro s hs
  apply Ev.rounds
  unfold cusplaw24_LexBack.f
  refine Ev.bind (Tokens_ev s) ?_
  by_cases he : (tokR s.data.toList).2.2 = 0
  · refine Ev.congr (fun k => if_pos he) ?_
    have hsz : s.size ≤ 1048576 := by
      apply Classical.byContradiction; intro h
      unfold tokR at he; rw [szl, if_pos (by omega)] at he; simp at he
    have hrun : tokR s.data.toList = run (s.data.toList.length + 1) (s.data.toList.drop 0) 0 [] := by
      unfold tokR; rw [szl, if_neg (by omega), List.drop_zero]
    rw [hrun] at he ⊢
    obtain ⟨T, h1, h2, h3⟩ := run_shape s.data.toList _ 0 [] (by omega) (by omega) (by simp) he
    rw [h1, List.nil_append, szl]
    simp only
    simp only [List.length_nil] at h3
    have hgS : ∀ t ∈ T, goodS t := fun t ht => by
      obtain ⟨k, p, n, e1, e2, e3⟩ := h2 t ht
      exact ⟨k, by rw [e1], by rw [e1]; simp only; rw [bytesA_list]; exact e3⟩
    have hsm : small (T ++ [endT s.size]) = true := by
      unfold small; rw [List.all_eq_true]
      intro t ht
      rcases List.mem_append.mp ht with ht | ht
      · obtain ⟨k, p, n, e1, e2, e3⟩ := h2 t ht
        rw [e1]; simp only; rw [bytesA_size, List.length_take, List.length_drop, szl]; simp; omega
      · simp at ht; subst ht; show decide ((⟨#[]⟩ : ByteArray).size ≤ 1048576) = true; decide
    refine back_l0 s hsz T h2 (by omega) ?_ _ 0 rfl (by omega)
    have hJ : joinR (T ++ [endT s.size]) = if (joinL false (T ++ [endT s.size])).length > 1048576 then (⟨#[]⟩, 2) else (⟨(joinL false (T ++ [endT s.size])).toArray⟩, 0) := by
      have hL : (T ++ [endT s.size]).length = T.length + 1 := by simp
      unfold joinR
      have := okFrom_T s.data.toList T 0 (T.length + 1) h2 (by omega)
      rw [szl] at this
      rw [hL, this, if_neg (by simp), if_neg (by omega), if_neg (by omega)]
    have eJ : lex_Join.f (T ++ [endT s.size]) = some (joinR (T ++ [endT s.size])) := by unfold lex_Join.f; rw [if_pos hsm]
    refine Ev.congr (fun k => by rw [eJ, Option.bind_some]) ?_
    rw [hJ]
    by_cases hlong : (joinL false (T ++ [endT s.size])).length > 1048576
    · rw [if_pos hlong]
      exact Ev.congr (fun k => if_pos rfl) works2
    · rw [if_neg hlong]
      refine Ev.congr (fun k => if_neg (by simp)) ?_
      refine Ev.bind (Tokens_ev _) ?_
      have hl := joinL_len s.size T false hgS
      obtain ⟨T', a, g1, g2⟩ := run_join T false ((joinL false (T ++ [endT s.size])).length + 1) 0 s.size [] hgS (by omega) (by simp; omega)
      have eT : tokR (⟨(joinL false (T ++ [endT s.size])).toArray⟩ : ByteArray).data.toList = (T' ++ [endT a], 0, 0) := by
        show tokR (joinL false (T ++ [endT s.size])) = _
        unfold tokR; rw [if_neg (by omega), g1, List.nil_append]
      rw [eT]
      have hst : sameKT (T' ++ [endT a]) (T ++ [endT s.size]) := sameKT_app _ _ _ _ g2 ⟨rfl, rfl, trivial⟩
      have hll := sameKT_len _ _ hst
      refine Ev.congr (fun k => by rw [if_pos rfl, if_pos rfl, show (((T' ++ [endT a]).length : Int) != ((T ++ [endT s.size]).length : Int)) = false by rw [hll]; simp]) ?_
      refine Ev.step (fun k => ?_) (back_l1 (T ++ [endT s.size]) (T' ++ [endT a]) (by simp; omega) hst _ 0 rfl (by omega))
      simp only [cusplaw24_LexBack.j1]; rw [if_neg (by simp)]; rfl
  · refine Ev.congr (fun k => if_neg he) ?_
    have h0 : (tokR s.data.toList).1 = [] := by
      unfold tokR at he ⊢
      split
      · rfl
      · rename_i h; rw [if_neg h] at he; exact run_err _ _ _ _ he
    refine Ev.congr (fun k => if_pos (by rw [h0]; rfl)) works2
end Go.Proofs.Ytdcjgibdfpldgaa.Pure
