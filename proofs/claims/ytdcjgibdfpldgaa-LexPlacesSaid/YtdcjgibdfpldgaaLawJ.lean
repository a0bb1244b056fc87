/- The reference's Place. -/
import Derived.Test.YtdcjgibdfpldgaaLawI
import Derived.Test.YtdcjgibdfpldgaaPLex11
namespace Go.Proofs.Ytdcjgibdfpldgaa
set_option linter.unusedVariables false
set_option linter.unusedSimpArgs false
open Go.RowKit Go.Proofs.Ytdcjgibdfpldgaa.PLex Go.Proofs.YtdcjgibdfpldgaaW.PrintWords

theorem rPlace_l0 (s : ByteArray) (hs : s.size ≤ 140737488351232) (a : Nat) (ha : a ≤ s.size) : ∀ (d i : Nat), a - i = d → i ≤ a →
    Ev (fun k => cuspref24_Place.l0 k s (a : Int) ((((s.data.toList.take i).count 10 : Nat) : Int) + 1) ((i : Int) - Lib.lastIdx s 10 i) (i : Int)) ((((s.data.toList.take a).count 10 : Nat) : Int) + 1, (a : Int) - Lib.lastIdx s 10 a, 0)
  | 0, i, hd, hi => by
    obtain rfl : i = a := by omega
    exact Ev.step (f := fun _ => some ((((s.data.toList.take i).count 10 : Nat) : Int) + 1, (i : Int) - Lib.lastIdx s 10 i, 0)) (fun k => by simp only [cuspref24_Place.l0]; rw [if_neg (by omega)]) (Ev.now _)
  | d + 1, i, hd, hi => by
    have ih := rPlace_l0 s hs a ha d (i + 1) (by omega) (by omega)
    have hl : i < s.data.toList.length := by rw [szl]; omega
    have hx := lastIdx_le s 10 i
    have hc : (s.data.toList.take i).count 10 ≤ i := by
      have := List.count_le_length (a := (10 : UInt8)) (l := s.data.toList.take i); rw [List.length_take] at this; omega
    have W : wrap64 ((i : Int) + 1) = ((i + 1 : Nat) : Int) := by rw [w64] <;> omega
    have et : s.data.toList.take (i + 1) = s.data.toList.take i ++ [s.data.toList[i]] := List.take_succ_eq_append_getElem hl
    have eg : s.data[i]! = s.data.toList[i] := by
      have hk : i < s.data.size := by simpa using hl
      rw [getElem!_pos s.data i hk]; simp
    by_cases h : s.data.toList[i] = 10
    · have e1 : Lib.lastIdx s 10 (i + 1) = i := Lib.lastIdx_hit s 10 i (by rw [eg, h]; rfl)
      rw [e1, et, List.count_append, h, show (([10] : List UInt8).count 10) = 1 from rfl] at ih
      refine Ev.step (fun k => ?_) ih
      simp only [cuspref24_Place.l0]; rw [if_pos (by omega), if_pos (by omega), if_pos (by omega), bt_eq s i hl, h, if_pos (by rfl), W, w64 (by omega) (by omega)]
      rw [show ((((s.data.toList.take i).count 10 : Nat) : Int) + 1 + 1) = (((s.data.toList.take i).count 10 + 1 : Nat) : Int) + 1 by omega, show ((i + 1 : Nat) : Int) - (i : Int) = 1 by omega]
    · have e1 : Lib.lastIdx s 10 (i + 1) = Lib.lastIdx s 10 i := Lib.lastIdx_miss s 10 i (by rw [eg]; exact fun hh => h (u8_lit.mp hh))
      rw [e1, et, List.count_append, show (([s.data.toList[i]] : List UInt8).count 10) = 0 from by rw [List.count_singleton]; simpa using h, Nat.add_zero] at ih
      refine Ev.step (fun k => ?_) ih
      simp only [cuspref24_Place.l0]; rw [if_pos (by omega), if_pos (by omega), if_pos (by omega), bt_eq s i hl, if_neg (show ¬ ((s.data.toList[i].toNat : Int) = 10) from fun hh => h (u8_lit.mp hh)), W, w64 (by omega) (by omega)]
      rw [show ((i + 1 : Nat) : Int) - Lib.lastIdx s 10 i = (i : Int) - Lib.lastIdx s 10 i + 1 by omega]

theorem rPlace_ev (s : ByteArray) (hs : s.size ≤ 140737488351232) (at_ : Int) : Ev (fun k => cuspref24_Place.f k s at_) (placeR s at_) := by
  have BAD : Ev (fun k => cuspref24_Place.j0 k s at_ true) (0, 0, 1) := Ev.step (f := fun _ => some (0, 0, 1)) (fun k => by simp only [cuspref24_Place.j0]; rw [if_pos trivial]) (Ev.now _)
  unfold placeR
  by_cases h1 : at_ < 0
  · rw [if_pos (.inl h1)]
    exact Ev.congr (fun k => by unfold cuspref24_Place.f; rw [if_pos h1]) BAD
  · by_cases h2 : at_ > s.size
    · rw [if_pos (.inr h2)]
      exact Ev.congr (fun k => by unfold cuspref24_Place.f; rw [if_neg h1, decide_eq_true h2]) BAD
    · rw [if_neg (by omega)]
      obtain ⟨a, rfl⟩ : ∃ a : Nat, at_ = a := ⟨at_.toNat, by omega⟩
      refine Ev.congr (f := fun k => cuspref24_Place.j0 k s (a : Int) false) (fun k => by unfold cuspref24_Place.f; rw [if_neg h1, decide_eq_false h2]) ?_
      have := rPlace_l0 s hs a (by omega) a 0 (by omega) (by omega)
      exact Ev.step (fun k => by simp only [cuspref24_Place.j0]; rw [if_neg (by simp)]; rfl) this


end Go.Proofs.Ytdcjgibdfpldgaa
