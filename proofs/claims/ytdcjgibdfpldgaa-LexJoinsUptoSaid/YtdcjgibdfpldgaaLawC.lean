/- The printed functions Name, Number, Valid, first, Tokens of the program answer as the plain words say. -/
import Derived.Test.YtdcjgibdfpldgaaLawB
namespace Go.Proofs.Ytdcjgibdfpldgaa
set_option linter.unusedVariables false
set_option linter.unusedSimpArgs false
open Go.RowKit Go.Proofs.Ytdcjgibdfpldgaa.PLex Go.Proofs.YtdcjgibdfpldgaaW.PrintWords

def nameB (l : List UInt8) : Bool := decide (l ≠ [] ∧ l.length ≤ 64 ∧ nm l = l.length)
def numB (l : List UInt8) : Bool := decide ((num l).1 > 0 ∧ (num l).1 = l.length ∧ (num l).2 ≤ 1100)
def signB (l : List UInt8) : Bool := decide (l.length = 1 ∧ l.head?.map isSign = some true)
def validB (f0 : Int) (l : List UInt8) (f2 : Int) : Bool :=
  if f2 < 0 then false else if f0 = 0 then decide (l = []) else if f0 = 1 then numB l else if f0 = 2 then nameB l else if f0 = 3 then signB l else false

theorem index_sign (l : List UInt8) (c : UInt8) : decide (0 ≤ Lib.indexByte l c) = l.contains c := by
  induction l with
  | nil => simp [Lib.indexByte]
  | cons b l ih =>
    by_cases h : b = c
    · subst h; simp [Lib.indexByte]
    · have hge := Lib.indexByte_ge l c
      have h2 : (b == c) = false := by simpa using h
      have h3 : (c == b) = false := by simpa using fun e => h e.symm
      rw [Lib.indexByte, h2, List.contains_cons, h3, Bool.false_or, ← ih]
      simp only [Bool.false_eq_true, if_false]
      by_cases h4 : Lib.indexByte l c = -1
      · simp [h4]
      · have : ¬ (Lib.indexByte l c == -1) = true := by simpa using h4
        rw [if_neg this]; rw [Bool.eq_iff_iff]; simp; omega

theorem Name_ev (s : ByteArray) (hs : s.size ≤ Lim) : Ev (fun k => lex_Name.f k s) (nameB s.data.toList) := by
  by_cases h0 : s.data.toList = []
  · refine Ev.congr (f := fun _ => some false) (fun k => by unfold lex_Name.f; rw [if_pos (by rw [Go.ByteArray.toList_eq]; exact h0)]) ?_
    have : nameB s.data.toList = false := by unfold nameB; simp [h0]
    rw [this]; exact Ev.now _
  · by_cases h1 : s.size ≤ 64
    · refine Ev.congr (f := fun k => (lex_name.f k s).bind fun t => some (t == (s.size : Int))) (fun k => by unfold lex_Name.f; rw [if_neg (by rw [Go.ByteArray.toList_eq]; exact h0), if_pos (by omega)]) ?_
      refine Ev.bind (name_ev s hs) ?_
      have : nameB s.data.toList = ((nm s.data.toList : Int) == (s.size : Int)) := by
        unfold nameB; rw [Bool.eq_iff_iff, decide_eq_true_iff, szl]
        constructor
        · rintro ⟨_, _, h⟩; simp; omega
        · intro h; have h' := eq_of_beq h; exact ⟨h0, h1, by omega⟩
      rw [this]; exact Ev.now _
    · refine Ev.congr (f := fun _ => some false) (fun k => by unfold lex_Name.f; rw [if_neg (by rw [Go.ByteArray.toList_eq]; exact h0), if_neg (by omega)]) ?_
      have : nameB s.data.toList = false := by unfold nameB; rw [szl]; simp; omega
      rw [this]; exact Ev.now _

theorem Number_ev (s : ByteArray) (hs : s.size ≤ Lim) : Ev (fun k => lex_Number.f k s) (numB s.data.toList) := by
  unfold lex_Number.f
  refine Ev.bind (number_ev s hs) ?_
  obtain ⟨a, ha⟩ : ∃ a, num s.data.toList = a := ⟨_, rfl⟩
  have : numB s.data.toList = decide (a.1 > 0 ∧ a.1 = s.size ∧ a.2 ≤ 1100) := by unfold numB; rw [ha, szl]
  rw [this, ha]
  by_cases h1 : a.1 > 0
  · by_cases h2 : a.1 = s.size
    · refine Ev.congr (f := fun _ => some (decide ((a.2 : Int) ≤ 1100))) (fun k => by rw [if_pos (by omega), if_pos (by omega)]) ?_
      have : decide (a.1 > 0 ∧ a.1 = s.size ∧ a.2 ≤ 1100) = decide ((a.2 : Int) ≤ 1100) := by rw [decide_eq_decide]; omega
      rw [this]; exact Ev.now _
    · refine Ev.congr (f := fun _ => some false) (fun k => by rw [if_pos (by omega), if_neg (by omega)]) ?_
      have : decide (a.1 > 0 ∧ a.1 = s.size ∧ a.2 ≤ 1100) = false := decide_eq_false (by omega)
      rw [this]; exact Ev.now _
  · refine Ev.congr (f := fun _ => some false) (fun k => by rw [if_neg (by omega)]) ?_
    have : decide (a.1 > 0 ∧ a.1 = s.size ∧ a.2 ≤ 1100) = false := decide_eq_false (by omega)
    rw [this]; exact Ev.now _

theorem Valid_ev (f0 : Int) (s : ByteArray) (f2 : Int) (hs : s.size ≤ Lim) : Ev (fun k => lex_Valid.f k f0 s f2) (validB f0 s.data.toList f2) := by
  unfold lex_Valid.f validB
  by_cases h2 : f2 < 0
  · rw [if_pos h2]; refine Ev.congr (f := fun _ => some false) (fun k => by rw [if_pos h2]) (Ev.now _)
  by_cases h0 : f0 = 0
  · rw [if_neg h2, if_pos h0]
    refine Ev.congr (f := fun _ => some (decide (s.data.toList = []))) (fun k => ?_) (Ev.now _)
    rw [if_neg h2, if_pos h0, Go.ByteArray.toList_eq]; congr 1
    rw [Bool.eq_iff_iff]; simp
  by_cases h1 : f0 = 1
  · rw [if_neg h2, if_neg h0, if_pos h1]
    refine Ev.congr (f := fun k => (lex_Number.f k s).bind fun t => some t) (fun k => by rw [if_neg h2, if_neg h0, if_pos h1]) (Ev.bind (Number_ev s hs) (Ev.now _))
  by_cases h3 : f0 = 2
  · rw [if_neg h2, if_neg h0, if_neg h1, if_pos h3]
    refine Ev.congr (f := fun k => (lex_Name.f k s).bind fun t => some t) (fun k => by rw [if_neg h2, if_neg h0, if_neg h1, if_pos h3]) (Ev.bind (Name_ev s hs) (Ev.now _))
  by_cases h4 : f0 = 3
  · subst h4
    rw [if_neg h2, if_neg h0, if_neg h1, if_neg h3, if_pos rfl]
    refine Ev.congr (f := fun k => some (signB s.data.toList)) (fun k => ?_) (Ev.now _)
    rw [if_neg h2, if_neg h0, if_neg h1, if_neg h3]
    by_cases h5 : s.size = 1
    · rw [if_pos (by omega)]
      obtain ⟨c, hc⟩ : ∃ c, s.data.toList = [c] := by
        have : s.data.toList.length = 1 := by rw [szl]; exact h5
        exact List.length_eq_one_iff.mp this
      have : strings_Contains.f (⟨#[43, 45, 42, 47, 94, 40, 41, 44, 91, 93, 61, 126]⟩ : ByteArray) s = some (isSign c) := by
        unfold strings_Contains.f; rw [hc]; simp only; rw [index_sign]; rfl
      rw [this, Option.bind_some]
      unfold signB; rw [hc]; congr 1; rw [Bool.eq_iff_iff]; simp
    · rw [if_neg (by omega)]; unfold signB; rw [szl]; simp [h5]
  · rw [if_neg h2, if_neg h0, if_neg h1, if_neg h3]
    rw [show (if f0 = 3 then signB s.data.toList else false) = false from if_neg h4]
    refine Ev.congr (f := fun _ => some false) (fun k => ?_) (Ev.now _)
    rw [if_neg h2, if_neg h0, if_neg h1, if_neg h3]
    exact if_neg h4
end Go.Proofs.Ytdcjgibdfpldgaa
