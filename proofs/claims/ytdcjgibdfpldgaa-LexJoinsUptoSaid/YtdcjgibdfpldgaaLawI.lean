/- same, works, and the program's Place. -/
import Derived.Test.YtdcjgibdfpldgaaLawH
namespace Go.Proofs.Ytdcjgibdfpldgaa
set_option linter.unusedVariables false
set_option linter.unusedSimpArgs false
open Go.RowKit Go.Proofs.Ytdcjgibdfpldgaa.PLex Go.Proofs.YtdcjgibdfpldgaaW.PrintWords

theorem same_l0 (a : List S32) (ha : a.length ≤ 4398046511104) : ∀ (d i : Nat), a.length - i = d → i ≤ a.length → Ev (fun k => cusplaw24_same.l0 k a a (i : Int)) true
  | 0, i, hd, hi => Ev.step (f := fun _ => some true) (fun k => by simp only [cusplaw24_same.l0]; rw [if_neg (by omega)]) (Ev.now _)
  | d + 1, i, hd, hi => by
    have W : wrap64 ((i : Int) + 1) = ((i + 1 : Nat) : Int) := by rw [w64] <;> omega
    refine Ev.step (f := fun k => cusplaw24_same.l0 k a a ((i + 1 : Nat) : Int)) (fun k => ?_) (same_l0 a ha d (i + 1) (by omega) (by omega))
    simp only [cusplaw24_same.l0]; rw [if_pos (by omega), if_pos (by omega), if_pos (by omega), if_neg (by simp), W]
theorem same_ev (a : List S32) (ha : a.length ≤ 4398046511104) : Ev (fun k => cusplaw24_same.f k a a) true := by
  unfold cusplaw24_same.f
  exact Ev.congr (f := fun k => cusplaw24_same.l0 k a a ((0 : Nat) : Int)) (fun k => by rw [if_pos rfl]; rfl) (same_l0 a ha a.length 0 (by omega) (by omega))

theorem run_len : ∀ (f : Nat) (l : List UInt8) (i : Nat) (out : List S32), out.length ≤ 65536 → (run f l i out).1.length ≤ 65536
  | 0, _, _, _, _ => by simp [run]
  | f + 1, l, i, out, ho => by
    rw [run]
    split
    · split
      · simp
      · rename_i h; show (out ++ _).length ≤ _; rw [List.length_append]; simp; omega
    · split
      · simp
      · split
        · simp
        · rename_i h; exact run_len f _ _ _ (by rw [List.length_append]; simp; omega)
theorem tokR_len (l : List UInt8) : (tokR l).1.length ≤ 65536 := by
  unfold tokR; split
  · simp
  · exact run_len _ _ _ _ (by simp)

/-- Line and column of a place. -/
def placeR (s : ByteArray) (at_ : Int) : Int × Int × Int :=
  if at_ < 0 ∨ at_ > s.size then (0, 0, 1) else (((s.data.toList.take at_.toNat).count 10 : Nat) + 1, at_ - Lib.lastIdx s 10 at_.toNat, 0)

theorem lastIdx_le (s : ByteArray) (c : Int) (k : Nat) : -1 ≤ Lib.lastIdx s c k ∧ Lib.lastIdx s c k < k := by
  rcases Lib.lastIdx_spec s c k with ⟨h, _⟩ | ⟨i, h1, h2, _⟩ <;> omega
theorem lastIdx_ext (s : ByteArray) (a : Nat) (ha : a ≤ s.size) (c : Int) : ∀ k, k ≤ a → Lib.lastIdx (s.extract 0 a) c k = Lib.lastIdx s c k
  | 0, _ => rfl
  | k + 1, h => by
    have e : (s.extract 0 a).data[k]! = s.data[k]! := by
      have h1 : (s.extract 0 a).data = s.data.extract 0 a := by simp [ByteArray.data_extract]
      have hk : k < s.data.size := by have : s.data.size = s.size := rfl; omega
      rw [h1, getElem!_pos (s.data.extract 0 a) k (by simp; omega), getElem!_pos s.data k hk]; simp
    unfold Lib.lastIdx; rw [e, lastIdx_ext s a ha c k (by omega)]
theorem ext0_size (s : ByteArray) (a : Nat) (ha : a ≤ s.size) : (s.extract 0 a).size = a := by simp; omega

theorem Place_ev (s : ByteArray) (hs : s.size ≤ 140737488351232) (at_ : Int) : Ev (fun k => lex_Place.f k s at_) (placeR s at_) := by
  have BAD : Ev (fun k => lex_Place.j0 k s at_ true) (0, 0, 1) := Ev.step (f := fun _ => some (0, 0, 1)) (fun k => by simp only [lex_Place.j0]; rw [if_pos trivial]) (Ev.now _)
  unfold placeR
  by_cases h1 : at_ < 0
  · rw [if_pos (.inl h1)]
    exact Ev.congr (fun k => by unfold lex_Place.f; rw [if_pos h1]) BAD
  · by_cases h2 : at_ > s.size
    · rw [if_pos (.inr h2)]
      exact Ev.congr (fun k => by unfold lex_Place.f; rw [if_neg h1, decide_eq_true h2]) BAD
    · rw [if_neg (by omega)]
      obtain ⟨a, rfl⟩ : ∃ a : Nat, at_ = a := ⟨at_.toNat, by omega⟩
      have ha : a ≤ s.size := by omega
      have hx := lastIdx_le s 10 a
      have hc : (s.data.toList.take a).count 10 ≤ a := by
        have := List.count_le_length (a := (10 : UInt8)) (l := s.data.toList.take a); rw [List.length_take] at this; omega
      have e1 : strings_Count.f (s.extract 0 a) (⟨#[10]⟩ : ByteArray) = some (((s.data.toList.take a).count 10 : Nat) : Int) := by
        unfold strings_Count.f; simp only; congr 2
        unfold Lib.countByte; rw [ext_0, bytesA_list]
      have e2 : strings_LastIndexByte.f (s.extract 0 a) 10 = some (Lib.lastIdx s 10 a) := by
        unfold strings_LastIndexByte.f Lib.lastIndexByte; rw [ext0_size s a ha, if_pos (by omega), lastIdx_ext s a ha 10 a (Nat.le_refl _)]
      refine Ev.congr (f := fun k => lex_Place.j0 k s (a : Int) false) (fun k => by unfold lex_Place.f; rw [if_neg h1, decide_eq_false h2]) ?_
      refine Ev.step (f := fun _ => some ((((s.data.toList.take a).count 10 : Nat) : Int) + 1, (a : Int) - Lib.lastIdx s 10 a, 0)) (fun k => ?_) (Ev.now _)
      simp only [lex_Place.j0]
      rw [if_neg (by simp), if_pos (by omega), if_pos (by omega), Int.toNat_natCast, e1, Option.bind_some, e2, Option.bind_some, w64 (by omega) (by omega), w64 (by omega) (by omega)]

theorem works_ev : Ev (fun k => cusplaw24_works.f k) true := by
  unfold cusplaw24_works.f
  refine Ev.bind (Tokens_ev _) (Ev.bind (Tokens_ev _) ?_)
  have eJ : lex_Join.f (([(⟨1, (⟨#[49]⟩ : ByteArray), 0⟩ : S32), (⟨2, (⟨#[101, 53]⟩ : ByteArray), 0⟩ : S32), (⟨0, (⟨#[]⟩ : ByteArray), 0⟩ : S32)] : List (S32))) = some (⟨#[49, 32, 101, 53]⟩, 0) := by rfl
  refine Ev.congr (fun k => by rw [eJ, Option.bind_some]) (Ev.bind (Place_ev _ (by decide) 3) ?_)
  have a1 : (tokR (⟨#[49, 46, 53, 101, 51, 42, 120, 95, 49]⟩ : ByteArray).data.toList).1.length = 4 := by decide +kernel
  have a2 : (((rd_T32 (tokR (⟨#[49, 46, 53, 101, 51, 42, 120, 95, 49]⟩ : ByteArray).data.toList).1 1).f0) == 3 && ((((rd_T32 (tokR (⟨#[49, 46, 53, 101, 51, 42, 120, 95, 49]⟩ : ByteArray).data.toList).1 1).f1).toList) == ([42] : List UInt8) && (((rd_T32 (tokR (⟨#[49, 46, 53, 101, 51, 42, 120, 95, 49]⟩ : ByteArray).data.toList).1 1).f2) == 5))) = true := by decide +kernel
  have a3 : (tokR (⟨#[49, 46, 53, 101, 51, 42, 120, 95, 49]⟩ : ByteArray).data.toList).2 = (0, 0) := by decide +kernel
  have a4 : (tokR (⟨#[49, 32, 46, 32, 50]⟩ : ByteArray).data.toList).2 = (2, 240) := by decide +kernel
  have a5 : placeR (⟨#[97, 10, 98, 99]⟩ : ByteArray) 3 = (2, 2, 0) := by decide +kernel
  refine Ev.congr (f := fun _ => some true) (fun k => ?_) (Ev.now _)
  rw [if_pos (by rw [a1]; rfl), if_pos (by rw [a1]; decide), if_pos a2, if_pos (by rw [a3]), if_pos (by rw [a3]), if_pos (by rw [a4]), if_pos (by rw [a4]), if_pos (by decide +kernel), if_pos rfl, if_pos (by rw [a5]), if_pos (by rw [a5]), a5]; rfl
end Go.Proofs.Ytdcjgibdfpldgaa
