/- The reference's Join answers as the plain words say, where the texts together are short. -/
import Derived.Test.YtdcjgibdfpldgaaLawK
import Derived.Test.YtdcjgibdfpldgaaJoin
import Derived.Test.YtdcjgibdfpldgaaPLex11
namespace Go.Proofs.Ytdcjgibdfpldgaa
set_option linter.unusedVariables false
set_option linter.unusedSimpArgs false
open Go.RowKit Go.Proofs.Ytdcjgibdfpldgaa.PLex Go.Proofs.YtdcjgibdfpldgaaW.PrintWords

/-- How long all texts are together. -/
def sumT : List S32 → Nat
  | [] => 0
  | t :: r => t.f1.size + sumT r
theorem sumT_app (a b : List S32) : sumT (a ++ b) = sumT a + sumT b := by
  induction a with
  | nil => simp [sumT]
  | cons t a ih => simp only [List.cons_append, sumT, ih]; omega
theorem joinL_le (p : Bool) (l : List S32) : (joinL p l).length ≤ sumT l + l.length := by
  induction l generalizing p with
  | nil => simp [joinL]
  | cons t l ih =>
    have := ih (wordyB t)
    simp only [joinL, sumT, List.length_append, List.length_cons, szl]
    split <;> simp <;> omega
theorem sumT_take (l : List S32) (i : Nat) : sumT (l.take i) ≤ sumT l := by
  have := sumT_app (l.take i) (l.drop i); rw [List.take_append_drop] at this; omega
def nums (l : List UInt8) : List Int := l.map fun b => (b.toNat : Int)
theorem nums_app (a b : List UInt8) : nums (a ++ b) = nums a ++ nums b := by simp [nums]
theorem strOf_nums (l : List UInt8) : strOfNums (nums l) = bytesA l := by
  unfold strOfNums nums bytesA
  have : (l.map fun b => (b.toNat : Int)).map (fun n => UInt8.ofNat n.toNat) = l := by
    rw [List.map_map]
    conv => rhs; rw [← List.map_id l]
    apply List.map_congr_left
    intro b _
    simp
  rw [this]
theorem rwordy_f (t : S32) : cuspref24_wordy.f t.f0 t.f1 t.f2 = some (wordyB t) := by
  unfold cuspref24_wordy.f wordyB
  by_cases h : t.f0 = 1
  · rw [if_pos h]; simp [h]
  · rw [if_neg h]; congr 1; rw [Bool.eq_iff_iff]; simp [h]

theorem rJoin_l1 (l : List S32) (hl : l.length ≤ 65536) (hs : sumT l ≤ 1048576) : ∀ (d i : Nat), l.length - i = d → i ≤ l.length →
    Ev (fun k => cuspref24_Join.l1 k l (nums (joinL false (l.take i))) (i : Int)) (if (joinL false l).length > 1048576 then (⟨#[]⟩, 2) else (⟨(joinL false l).toArray⟩, 0))
  | 0, i, hd, hi => by
    obtain rfl : i = l.length := by omega
    rw [List.take_length]
    have e : ((nums (joinL false l)).length : Int) = ((joinL false l).length : Int) := by simp [nums]
    by_cases h : (joinL false l).length > 1048576
    · rw [if_pos h]
      exact Ev.step (f := fun _ => some (⟨#[]⟩, 2)) (fun k => by simp only [cuspref24_Join.l1]; rw [if_neg (by omega), e, if_pos (by omega)]) (Ev.now _)
    · rw [if_neg h]
      exact Ev.step (f := fun _ => some (⟨(joinL false l).toArray⟩, 0)) (fun k => by simp only [cuspref24_Join.l1]; rw [if_neg (by omega), e, if_neg (by omega), strOf_nums]; rfl) (Ev.now _)
  | d + 1, i, hd, hi => by
    have W : wrap64 ((i : Int) + 1) = ((i + 1 : Nat) : Int) := by rw [w64] <;> omega
    have hle := joinL_le false (l.take i)
    have hst := sumT_take l i
    have hlt : (l.take i).length ≤ 65536 := by rw [List.length_take]; omega
    have hn : (nums (joinL false (l.take i))).length = (joinL false (l.take i)).length := by simp [nums]
    have ts := take_step l (i : Int) (by omega) (by omega)
    rw [show ((i : Int) + 1).toNat = i + 1 by omega, Int.toNat_natCast] at ts
    have hsz : (rd_T32 l (i : Int)).f1.size ≤ 1048576 := by
      have := sumT_take l (i + 1)
      rw [ts, sumT_app] at this
      simp only [sumT] at this; omega
    have ih := rJoin_l1 l hl hs d (i + 1) (by omega) (by omega)
    rw [ts, joinL_snoc, nums_app, nums_app] at ih
    have hw := rwordy_f (rd_T32 l (i : Int))
    have hb : bytesOf (rd_T32 l (i : Int)).f1 = nums (rd_T32 l (i : Int)).f1.data.toList := rfl
    by_cases h0 : i = 0
    · subst h0
      rw [if_neg (by simp [lastW])] at ih
      refine Ev.step (fun k => ?_) ih
      simp only [cuspref24_Join.l1]
      rw [if_pos (by omega), if_neg (by omega), if_pos (by omega), if_pos (by omega), W, hb]; rfl
    · have W1 : wrap64 ((i : Int) - 1) = ((i - 1 : Nat) : Int) := by rw [w64] <;> omega
      have hla := last_take l (i : Int) (by omega) (by omega)
      rw [Int.toNat_natCast, show (i : Int) - 1 = ((i - 1 : Nat) : Int) by omega] at hla
      rw [hla] at ih
      have hw1 := rwordy_f (rd_T32 l ((i - 1 : Nat) : Int))
      refine Ev.step (fun k => ?_) ih
      simp only [cuspref24_Join.l1]
      rw [if_pos (by omega), if_pos (by omega), W1, if_pos (by omega), if_pos (by omega), hw1, Option.bind_some]
      by_cases h1 : wordyB (rd_T32 l ((i - 1 : Nat) : Int)) = true
      · rw [if_pos h1, if_pos (by omega), hw, Option.bind_some]
        by_cases h2 : wordyB (rd_T32 l (i : Int)) = true
        · rw [if_pos h2, if_pos (by omega), Option.bind_some, if_pos (by rw [List.length_append]; simp; omega), W, hb, if_pos ⟨h1, h2⟩]
          simp [nums]
        · rw [if_neg h2, if_pos (by omega), W, hb, if_neg (fun h => h2 h.2)]; rfl
      · rw [if_neg h1, if_pos (by omega), if_pos (by omega), W, hb, if_neg (fun h => h1 h.1)]; rfl

theorem okFrom_cons (n i : Nat) (l : List S32) (h : i < l.length) : okFrom n i (l.drop i) = (okAt n i (rd_T32 l (i : Int)) && okFrom n (i + 1) (l.drop (i + 1))) := by
  rw [List.drop_eq_getElem_cons h]
  have : rd_T32 l (i : Int) = l[i] := by unfold rd_T32; simp [List.getD, h]
  rw [this]; rfl
theorem rJoin_l0 (l : List S32) (hl : l.length ≤ 1048576) (hs : sumT l ≤ 1048576) : ∀ (d i : Nat), l.length - i = d → i ≤ l.length →
    Ev (fun k => cuspref24_Join.l0 k l (i : Int)) (if okFrom l.length i (l.drop i) = false then (⟨#[]⟩, 240) else if l.length = 0 then (⟨#[]⟩, 240) else if l.length > 65536 then (⟨#[]⟩, 271)
      else if (joinL false l).length > 1048576 then (⟨#[]⟩, 2) else (⟨(joinL false l).toArray⟩, 0))
  | 0, i, hd, hi => by
    obtain rfl : i = l.length := by omega
    rw [List.drop_length, show okFrom l.length l.length [] = true from rfl, if_neg (by simp)]
    by_cases h0 : l.length = 0
    · rw [if_pos h0]
      exact Ev.step (f := fun _ => some (⟨#[]⟩, 240)) (fun k => by simp only [cuspref24_Join.l0]; rw [if_neg (by omega), if_pos (by omega)]) (Ev.now _)
    · rw [if_neg h0]
      by_cases h1 : l.length > 65536
      · rw [if_pos h1]
        exact Ev.step (f := fun _ => some (⟨#[]⟩, 271)) (fun k => by simp only [cuspref24_Join.l0]; rw [if_neg (by omega), if_neg (by omega), if_pos (by omega)]) (Ev.now _)
      · rw [if_neg h1]
        refine Ev.step (fun k => ?_) (rJoin_l1 l (by omega) hs _ 0 rfl (by omega))
        simp only [cuspref24_Join.l0]; rw [if_neg (by omega), if_neg (by omega), if_neg (by omega)]; rfl
  | d + 1, i, hd, hi => by
    have W : wrap64 ((i : Int) + 1) = ((i + 1 : Nat) : Int) := by rw [w64] <;> omega
    have W1 : wrap64 ((l.length : Int) - 1) = (l.length : Int) - 1 := w64 (by omega) (by omega)
    have hsz : (rd_T32 l (i : Int)).f1.size ≤ Lim := by
      have := sumT_take l (i + 1)
      have ts := take_step l (i : Int) (by omega) (by omega)
      rw [show ((i : Int) + 1).toNat = i + 1 by omega, Int.toNat_natCast] at ts
      rw [ts, sumT_app] at this
      simp only [sumT] at this; unfold Lim; omega
    have V := rValid_ev (rd_T32 l (i : Int)).f0 (rd_T32 l (i : Int)).f1 (rd_T32 l (i : Int)).f2 hsz
    have ih := rJoin_l0 l hl hs d (i + 1) (by omega) (by omega)
    rw [okFrom_cons _ _ _ (by omega)]
    have eA : okAt l.length i (rd_T32 l (i : Int)) = (validB (rd_T32 l (i : Int)).f0 (rd_T32 l (i : Int)).f1.data.toList (rd_T32 l (i : Int)).f2 && (((rd_T32 l (i : Int)).f0 == 0) == ((i : Int) == (l.length : Int) - 1))) := by
      unfold okAt
      have e1 : decide ((rd_T32 l (i : Int)).f0 = 0) = ((rd_T32 l (i : Int)).f0 == 0) := by rw [Bool.eq_iff_iff]; simp
      have e2 : decide (i + 1 = l.length) = ((i : Int) == (l.length : Int) - 1) := by rw [Bool.eq_iff_iff]; simp; omega
      rw [e1, e2]
    refine Ev.step (f := fun k => (cuspref24_Valid.f k (rd_T32 l (i : Int)).f0 (rd_T32 l (i : Int)).f1 (rd_T32 l (i : Int)).f2).bind fun t203 => (if t203 = true then (if ((((rd_T32 l (i : Int)).f0) == 0) != ((i : Int) == (l.length : Int) - 1)) = true then (some ((⟨#[]⟩ : ByteArray), 240)) else (cuspref24_Join.l0 k l ((i + 1 : Nat) : Int))) else (some ((⟨#[]⟩ : ByteArray), 240)))) (fun k => ?_) ?_
    · simp only [cuspref24_Join.l0]; rw [if_pos (by omega), if_pos (by omega), W1, W]
    · refine Ev.bind V ?_
      rw [eA]
      by_cases h1 : validB (rd_T32 l (i : Int)).f0 (rd_T32 l (i : Int)).f1.data.toList (rd_T32 l (i : Int)).f2 = true
      · rw [h1, Bool.true_and]
        refine Ev.congr (fun k => if_pos rfl) ?_
        cases h2 : (((rd_T32 l (i : Int)).f0 == 0) == ((i : Int) == (l.length : Int) - 1)) with
        | true =>
          rw [Bool.true_and]
          refine Ev.congr (fun k => if_neg ?_) ih
          unfold bne; rw [h2]; simp
        | false =>
          rw [Bool.false_and, if_pos rfl]
          refine Ev.congr (fun k => if_pos ?_) (Ev.now _)
          unfold bne; rw [h2]; rfl
      · rw [show validB (rd_T32 l (i : Int)).f0 (rd_T32 l (i : Int)).f1.data.toList (rd_T32 l (i : Int)).f2 = false by simpa using h1, Bool.false_and, Bool.false_and, if_pos rfl]
        exact Ev.congr (fun k => if_neg (by simp)) (Ev.now _)
theorem rJoin_ev (l : List S32) (hl : l.length ≤ 1048576) (hs : sumT l ≤ 1048576) : Ev (fun k => cuspref24_Join.f k l) (joinR l) := by
  have := rJoin_l0 l hl hs _ 0 rfl (by omega)
  unfold cuspref24_Join.f joinR
  rw [List.drop_zero] at this; exact this
theorem small_of (l : List S32) (hs : sumT l ≤ 1048576) : small l = true := by
  unfold small
  induction l with
  | nil => rfl
  | cons t r ih =>
    simp only [sumT] at hs
    rw [List.all_cons, ih (by omega), Bool.and_true]; exact decide_eq_true (by omega)

theorem joins_pure (l : List S32) (hl : l.length ≤ 1048576) (hs : sumT l ≤ 1048576) : ∃ k, cusplaw24_LexJoins.f k l = some true := by
  apply Ev.rounds
  unfold cusplaw24_LexJoins.f
  have eJ : lex_Join.f l = some (joinR l) := by unfold lex_Join.f; rw [if_pos (small_of l hs)]
  refine Ev.congr (fun k => by rw [if_pos (by simp; omega), List.nil_append, Option.bind_some, eJ, Option.bind_some]) ?_
  refine Ev.bind (rJoin_ev l hl hs) ?_
  refine Ev.congr (fun k => by rw [if_pos rfl, if_pos rfl]) ?_
  refine Ev.bind (same_ev l (by omega)) ?_
  exact Ev.congr (fun k => if_pos rfl) (Ev.bind works_ev (Ev.now _))
end Go.Proofs.Ytdcjgibdfpldgaa
