/- The printed functions first and Tokens of the program answer as the plain words say. -/
import Derived.Test.YtdcjgibdfpldgaaLawC
import Derived.Test.YtdcjgibdfpldgaaPLex4
namespace Go.Proofs.Ytdcjgibdfpldgaa
set_option linter.unusedVariables false
set_option linter.unusedSimpArgs false
open Go.RowKit Go.Proofs.Ytdcjgibdfpldgaa.PLex Go.Proofs.YtdcjgibdfpldgaaW.PrintWords

def bytesA (l : List UInt8) : ByteArray := ⟨l.toArray⟩
/-- What 'first' answers: kind, text, place, error. -/
def fstR (l : List UInt8) : Int × ByteArray × Int × Int := if (fst l).1 = 0 then (((fst l).2.1 : Int), bytesA (l.take (fst l).2.2), 0, 0) else (0, ⟨#[]⟩, 0, ((fst l).1 : Int))

theorem ext_b (s : ByteArray) (a b : Nat) : s.extract a b = bytesA ((s.data.toList.take b).drop a) := by
  have h : (s.extract a b).data.toList = (s.data.toList.take b).drop a := by
    rw [Lib.extract_data, List.drop_take]
  unfold bytesA; rw [← h]
theorem ext_0 (s : ByteArray) (b : Nat) : s.extract 0 b = bytesA (s.data.toList.take b) := by rw [ext_b]; rfl

theorem first_ev (s : ByteArray) (hs : s.size ≤ Lim) (h0 : s.data.toList ≠ []) : Ev (fun k => lex_first.f k s) (fstR s.data.toList) := by
  unfold lex_first.f
  have hl : 0 < s.data.toList.length := List.length_pos_iff.mpr h0
  refine Ev.bind (name_ev s hs) ?_
  have hn := nm_le s.data.toList
  rw [szl] at hn
  obtain ⟨n, en⟩ : ∃ n, nm s.data.toList = n := ⟨_, rfl⟩
  rw [en]; rw [en] at hn
  by_cases h1 : n > 0
  · by_cases h2 : n > 64
    · refine Ev.congr (f := fun _ => some (0, (⟨#[]⟩ : ByteArray), 0, 2)) (fun k => by rw [if_pos (by omega), if_pos (by omega)]) ?_
      have : fst s.data.toList = (2, 0, 0) := by unfold fst; rw [en, if_pos h1, if_pos h2]
      unfold fstR; rw [this]; exact Ev.now _
    · refine Ev.congr (f := fun _ => some (2, bytesA (s.data.toList.take n), 0, 0)) (fun k => by rw [if_pos (by omega), if_neg (by omega), if_pos (by omega), if_pos (by omega), Int.toNat_natCast, ext_0]) ?_
      have : fst s.data.toList = (0, 2, n) := by unfold fst; rw [en, if_pos h1, if_neg h2]
      unfold fstR; rw [this]; exact Ev.now _
  · refine Ev.congr (f := fun k => _) (fun k => by rw [if_neg (by omega)]) ?_
    refine Ev.bind (number_ev s hs) ?_
    have hm := num_le s.data.toList
    rw [szl] at hm
    obtain ⟨m, em⟩ : ∃ m, num s.data.toList = m := ⟨_, rfl⟩
    rw [em]; rw [em] at hm
    by_cases h3 : m.1 > 0
    · by_cases h4 : m.2 > 1100
      · refine Ev.congr (f := fun _ => some (0, (⟨#[]⟩ : ByteArray), 0, 2)) (fun k => by rw [if_pos (by omega), if_pos (by omega)]) ?_
        have : fst s.data.toList = (2, 0, 0) := by unfold fst; rw [en, if_neg h1, em, if_pos h3, if_pos h4]
        unfold fstR; rw [this]; exact Ev.now _
      · refine Ev.congr (f := fun _ => some (1, bytesA (s.data.toList.take m.1), 0, 0)) (fun k => by rw [if_pos (by omega), if_neg (by omega), if_pos (by omega), if_pos (by omega), Int.toNat_natCast, ext_0]) ?_
        have : fst s.data.toList = (0, 1, m.1) := by unfold fst; rw [en, if_neg h1, em, if_pos h3, if_neg h4]
        unfold fstR; rw [this]; exact Ev.now _
    · have e0 : s.data.toList.head? = some s.data.toList[0] := by
        have := head_drop s.data.toList 0 hl; simpa using this
      have es : strings_IndexByte.f (⟨#[43, 45, 42, 47, 94, 40, 41, 44, 91, 93, 61, 126]⟩ : ByteArray) (bt s 0) = some (Lib.indexByte signs s.data.toList[0]) := by
        unfold strings_IndexByte.f; rw [show bt s 0 = _ from bt_eq s 0 hl]; congr 2
        show (s.data.toList[0].toNat : Int).toNat.toUInt8 = _
        rw [Int.toNat_natCast]; exact UInt8.ofNat_toNat
      have hb := index_sign signs s.data.toList[0]
      by_cases h5 : isSign s.data.toList[0] = true
      · have h6 : (0 : Int) ≤ Lib.indexByte signs s.data.toList[0] := by
          have : decide ((0 : Int) ≤ Lib.indexByte signs s.data.toList[0]) = true := by rw [hb]; exact h5
          simpa using this
        refine Ev.congr (f := fun _ => some (3, bytesA (s.data.toList.take 1), 0, 0)) (fun k => ?_) ?_
        · rw [if_neg (by omega), if_pos (by rw [szl] at hl; omega), es, Option.bind_some, if_pos h6, if_pos (by decide), if_pos (by rw [szl] at hl; omega), ext_0]
        · have : fst s.data.toList = (0, 3, 1) := by unfold fst; rw [en, if_neg h1, em, if_neg h3, if_pos (by rw [e0]; simpa using h5)]
          unfold fstR; rw [this]; exact Ev.now _
      · have h6 : ¬ (0 : Int) ≤ Lib.indexByte signs s.data.toList[0] := by
          intro h
          have : decide ((0 : Int) ≤ Lib.indexByte signs s.data.toList[0]) = true := by simpa using h
          rw [hb] at this; exact h5 this
        refine Ev.congr (f := fun _ => some (0, (⟨#[]⟩ : ByteArray), 0, 240)) (fun k => ?_) ?_
        · rw [if_neg (by omega), if_pos (by rw [szl] at hl; omega), es, Option.bind_some, if_neg h6]
        · have : fst s.data.toList = (240, 0, 0) := by unfold fst; rw [en, if_neg h1, em, if_neg h3, if_neg (by rw [e0]; simpa using h5)]
          unfold fstR; rw [this]; exact Ev.now _

/-- The tokens of what stands from a place on; 'out': those ahead. -/
def run : Nat → List UInt8 → Nat → List S32 → List S32 × Int × Int
  | 0, _, _, _ => ([], 0, 0)
  | f + 1, l, at_, out =>
    if l.drop (blk false l) = [] then
      (if out.length = 65536 then ([], ((at_ + blk false l : Nat) : Int), 271) else (out ++ [⟨0, ⟨#[]⟩, ((at_ + blk false l : Nat) : Int)⟩], 0, 0))
    else if (fst (l.drop (blk false l))).1 ≠ 0 then ([], ((at_ + blk false l : Nat) : Int), ((fst (l.drop (blk false l))).1 : Int))
    else if out.length = 65536 then ([], ((at_ + blk false l : Nat) : Int), 271)
    else run f ((l.drop (blk false l)).drop (fst (l.drop (blk false l))).2.2) (at_ + blk false l + (fst (l.drop (blk false l))).2.2)
      (out ++ [⟨((fst (l.drop (blk false l))).2.1 : Int), bytesA ((l.drop (blk false l)).take (fst (l.drop (blk false l))).2.2), ((at_ + blk false l : Nat) : Int)⟩])
def tokR (l : List UInt8) : List S32 × Int × Int := if l.length > 1048576 then ([], 0, 2) else run (l.length + 1) l 0 []

theorem fst_len (l : List UInt8) (h : (fst l).1 = 0) : 0 < (fst l).2.2 ∧ (fst l).2.2 ≤ l.length ∧ 0 < (fst l).2.1 ∧ (fst l).2.1 < 4 := by
  have h1 := nm_le l; have h2 := num_le l
  unfold fst at h ⊢
  split
  · rename_i a; rw [if_pos a] at h
    split
    · rename_i b; rw [if_pos b] at h; simp at h
    · exact ⟨a, h1, by show 0 < 2; omega, by show 2 < 4; omega⟩
  · rename_i a; rw [if_neg a] at h
    split
    · rename_i b; rw [if_pos b] at h
      split
      · rename_i c; rw [if_pos c] at h; simp at h
      · exact ⟨b, h2, by show 0 < 1; omega, by show 1 < 4; omega⟩
    · rename_i b; rw [if_neg b] at h
      split
      · rename_i c
        refine ⟨by decide, ?_, by decide, by decide⟩
        cases l with
        | nil => simp at c
        | cons x t => simp
      · rename_i c; rw [if_neg c] at h; simp at h
end Go.Proofs.Ytdcjgibdfpldgaa
