/- Plain words for the lexer: letters, names, numbers, signs, tokens, over lists of bytes; no program in sight but the printed functions' names below. -/
import Derived.Test.YtdcjgibdfpldgaaBlank
namespace Go.Proofs.Ytdcjgibdfpldgaa
set_option linter.unusedVariables false
set_option linter.unusedSimpArgs false

def isLet (c : UInt8) : Bool := (97 ≤ c.toNat && c.toNat ≤ 122) || (65 ≤ c.toNat && c.toNat ≤ 90) || c.toNat == 95
def isLD (c : UInt8) : Bool := isLet c || isDig c
/-- How long the name at the head of a text is. -/
def nm : List UInt8 → Nat
  | [] => 0
  | c :: t => if isLet c = true then (t.takeWhile isLD).length + 1 else 0
/-- How long the exponent at the head of a text is. -/
def expo (l : List UInt8) : Nat :=
  if l.head? = some 101 ∨ l.head? = some 69 then
    if (l.drop 1).head? = some 43 ∨ (l.drop 1).head? = some 45 then (if digs (l.drop 2) > 0 then digs (l.drop 2) + 2 else 0)
    else (if digs (l.drop 1) > 0 then digs (l.drop 1) + 1 else 0)
  else 0
/-- The digits at the head, with a dot or without: how long, how many digits. -/
def mant (l : List UInt8) : Nat × Nat :=
  if (l.drop (digs l)).head? = some 46 then
    if digs l + digs (l.drop (digs l + 1)) = 0 then (0, 0) else (digs l + (digs (l.drop (digs l + 1)) + 1), digs l + digs (l.drop (digs l + 1)))
  else (digs l, digs l)
/-- How long the number at the head is, and how many digits it has ahead of its exponent. -/
def num (l : List UInt8) : Nat × Nat :=
  if (mant l).2 = 0 then (0, 0) else ((mant l).1 + expo (l.drop (mant l).1), (mant l).2)
def signs : List UInt8 := [43, 45, 42, 47, 94, 40, 41, 44, 91, 93, 61, 126]
def isSign (c : UInt8) : Bool := signs.contains c

/-- The first token of a text: the error; the kind; the length. -/
def fst (l : List UInt8) : Nat × Nat × Nat :=
  if nm l > 0 then (if nm l > 64 then (2, 0, 0) else (0, 2, nm l))
  else if (num l).1 > 0 then (if (num l).2 > 1100 then (2, 0, 0) else (0, 1, (num l).1))
  else if (l.head?.map isSign) = some true then (0, 3, 1) else (240, 0, 0)

theorem digs_cons (c : UInt8) (t : List UInt8) : digs (c :: t) = if isDig c = true then digs t + 1 else 0 := by
  unfold digs; rw [List.takeWhile_cons]; split <;> simp
theorem digs_nil : digs [] = 0 := rfl
theorem nm_le (l : List UInt8) : nm l ≤ l.length := by
  cases l with
  | nil => simp [nm]
  | cons c t =>
    have := (List.takeWhile_prefix isLD (l := t)).length_le
    show (if isLet c = true then (t.takeWhile isLD).length + 1 else 0) ≤ _
    split <;> simp <;> omega
theorem expo_le (l : List UInt8) : expo l ≤ l.length := by
  unfold expo
  split
  · have h1 := digs_le (l.drop 1); have h2 := digs_le (l.drop 2); rw [List.length_drop] at h1 h2
    have : 1 ≤ l.length := by cases l <;> simp_all
    split <;> split <;> omega
  · omega
theorem mant_le (l : List UInt8) : (mant l).1 ≤ l.length ∧ (mant l).2 ≤ (mant l).1 := by
  unfold mant
  split
  · rename_i h
    have h1 := digs_le l; have h2 := digs_le (l.drop (digs l + 1)); simp at h2
    have : digs l < l.length := by
      rcases Nat.lt_or_ge (digs l) l.length with h' | h'
      · exact h'
      · rw [List.drop_of_length_le h'] at h; simp at h
    split <;> simp <;> omega
  · exact ⟨digs_le l, Nat.le_refl _⟩
theorem num_le (l : List UInt8) : (num l).1 ≤ l.length := by
  unfold num
  split
  · simp
  · have h := expo_le (l.drop (mant l).1); have := (mant_le l).1; simp at h; simp; omega
theorem head_drop (l : List UInt8) (n : Nat) (h : n < l.length) : (l.drop n).head? = some l[n] := by
  rw [List.drop_eq_getElem_cons h]; rfl
end Go.Proofs.Ytdcjgibdfpldgaa
