/- The printed functions of the lexer answer as the plain words say: letters, digits, names, numbers, signs. -/
import Derived.Test.YtdcjgibdfpldgaaSpec
import Derived.Test.YtdcjgibdfpldgaaPLex8
namespace Go.Proofs.Ytdcjgibdfpldgaa
set_option linter.unusedVariables false
set_option linter.unusedSimpArgs false
open Go.RowKit Go.Proofs.Ytdcjgibdfpldgaa.PLex Go.Proofs.YtdcjgibdfpldgaaW.PrintWords

def Lim : Nat := 140737488351232
theorem w64 {x : Int} (h0 : -9223372036854775808 ≤ x) (h : x ≤ 9223372036854775807) : wrap64 x = x := by unfold wrap64; omega
theorem bt_eq (s : ByteArray) (i : Nat) (h : i < s.data.toList.length) : bt s (i : Int) = ((s.data.toList[i]'h).toNat : Int) := by
  have h' : i < s.size := by simpa using h
  unfold bt; simp [h']; rfl
theorem szl (s : ByteArray) : s.data.toList.length = s.size := by simp
theorem letter_f (c : UInt8) : lex_letter.f (c.toNat : Int) = some (isLet c) := by
  unfold lex_letter.f isLet
  have := c.toNat_lt
  repeat' split
  all_goals (congr 1; rw [Bool.eq_iff_iff]; simp; try omega)
theorem digit_f (c : UInt8) : lex_digit.f (c.toNat : Int) = some (isDig c) := by
  unfold lex_digit.f isDig
  split <;> (congr 1; rw [Bool.eq_iff_iff]; simp; try omega)
theorem ld1 {c : UInt8} (h : isLet c = true) : isLD c = true := by unfold isLD; rw [h]; rfl
theorem ld2 {c : UInt8} (h : isDig c = true) : isLD c = true := by unfold isLD; rw [h]; simp
theorem ld3 {c : UInt8} (h : isLet c = false) (h2 : isDig c = false) : ¬ isLD c = true := by unfold isLD; rw [h, h2]; simp

theorem name_l0 (s : ByteArray) (hs : s.size ≤ Lim) : ∀ (d i : Nat), s.size - i = d → i ≤ s.size →
    Ev (fun k => lex_name.l0 k s (i : Int)) ((i + ((s.data.toList.drop i).takeWhile isLD).length : Nat) : Int)
  | 0, i, hd, hi => by
    refine Ev.step (f := fun _ => some (i : Int)) (fun k => ?_) ?_
    · simp only [lex_name.l0]; rw [if_neg (by omega)]
    · rw [List.drop_of_length_le (by rw [szl]; omega)]; exact Ev.now _
  | d + 1, i, hd, hi => by
    have hlt : i < s.size := by omega
    have hl : i < s.data.toList.length := by rw [szl]; exact hlt
    unfold Lim at hs
    have W : wrap64 ((i : Int) + 1) = ((i + 1 : Nat) : Int) := by rw [w64] <;> omega
    have e : s.data.toList.drop i = s.data.toList[i] :: s.data.toList.drop (i + 1) := List.drop_eq_getElem_cons hl
    have ih := name_l0 s hs (d) (i + 1) (by omega) (by omega)
    by_cases h1 : isLet s.data.toList[i] = true
    · refine Ev.step (f := fun k => lex_name.l0 k s ((i + 1 : Nat) : Int)) (fun k => ?_) ?_
      · simp only [lex_name.l0]; rw [if_pos (by omega), if_pos (by omega), bt_eq s i hl, letter_f, h1]; simp only [Option.bind_some, if_true]; rw [W]
      · rw [e, List.takeWhile_cons, if_pos (ld1 h1)]
        rw [List.length_cons, show i + (((s.data.toList.drop (i + 1)).takeWhile isLD).length + 1) = i + 1 + ((s.data.toList.drop (i + 1)).takeWhile isLD).length by omega]; exact ih
    · have h1' : isLet s.data.toList[i] = false := by simpa using h1
      by_cases h2 : isDig s.data.toList[i] = true
      · refine Ev.step (f := fun k => lex_name.l0 k s ((i + 1 : Nat) : Int)) (fun k => ?_) ?_
        · simp only [lex_name.l0]; rw [if_pos (by omega), if_pos (by omega), bt_eq s i hl, letter_f, h1', digit_f, h2]; simp only [Option.bind_some, if_true]; rw [W]; rfl
        · rw [e, List.takeWhile_cons, if_pos (ld2 h2)]
          rw [List.length_cons, show i + (((s.data.toList.drop (i + 1)).takeWhile isLD).length + 1) = i + 1 + ((s.data.toList.drop (i + 1)).takeWhile isLD).length by omega]; exact ih
      · have h2' : isDig s.data.toList[i] = false := by simpa using h2
        refine Ev.step (f := fun _ => some (i : Int)) (fun k => ?_) ?_
        · simp only [lex_name.l0]; rw [if_pos (by omega), if_pos (by omega), bt_eq s i hl, letter_f, h1', digit_f, h2']; rfl
        · rw [e, List.takeWhile_cons, if_neg (ld3 h1' h2')]; exact Ev.now _

theorem name_ev (s : ByteArray) (hs : s.size ≤ Lim) : Ev (fun k => lex_name.f k s) (nm s.data.toList : Int) := by
  by_cases h0 : s.data.toList = []
  · refine Ev.congr (f := fun k => lex_name.j0 k s true) (fun k => by unfold lex_name.f; rw [if_pos (by rw [Go.ByteArray.toList_eq]; exact h0)]) ?_
    refine Ev.step (f := fun _ => some 0) (fun k => by simp only [lex_name.j0]; rfl) ?_
    rw [h0]; exact Ev.now _
  · have hl : 0 < s.data.toList.length := List.length_pos_iff.mpr h0
    have e : s.data.toList = s.data.toList[0] :: s.data.toList.drop 1 := by
      have := List.drop_eq_getElem_cons hl; simpa using this
    refine Ev.congr (f := fun k => lex_name.j0 k s (!isLet s.data.toList[0])) (fun k => ?_) ?_
    · unfold lex_name.f; rw [if_neg (by rw [Go.ByteArray.toList_eq]; exact h0), if_pos (by rw [szl] at hl; omega), show bt s 0 = _ from bt_eq s 0 hl, letter_f]; rfl
    · cases h1 : isLet s.data.toList[0]
      · refine Ev.step (f := fun _ => some 0) (fun k => by simp only [lex_name.j0]; rfl) ?_
        rw [e]; simp only [nm]; rw [if_neg (by rw [h1]; simp)]; exact Ev.now _
      · refine Ev.step (f := fun k => lex_name.l0 k s ((1 : Nat) : Int)) (fun k => by simp only [lex_name.j0]; rfl) ?_
        have := name_l0 s hs (s.size - 1) 1 rfl (by rw [szl] at hl; omega)
        have e2 : nm s.data.toList = 1 + ((s.data.toList.drop 1).takeWhile isLD).length := by
          conv => lhs; rw [e]
          simp only [nm]; rw [if_pos h1]; omega
        rw [e2]; exact this
end Go.Proofs.Ytdcjgibdfpldgaa
