/- The reference's Name, Number and Valid answer as the plain words say. -/
import Derived.Test.YtdcjgibdfpldgaaLawI
namespace Go.Proofs.Ytdcjgibdfpldgaa
set_option linter.unusedVariables false
set_option linter.unusedSimpArgs false
open Go.RowKit Go.Proofs.Ytdcjgibdfpldgaa.PLex Go.Proofs.YtdcjgibdfpldgaaW.PrintWords

theorem rName_ev (s : ByteArray) (hs : s.size ≤ Lim) : Ev (fun k => cuspref24_Name.f k s) (nameB s.data.toList) := by
  unfold cuspref24_Name.f
  have R := rname s hs 0 (by omega)
  refine Ev.bind R ?_
  rw [List.drop_zero]
  have hn := nm_le s.data.toList
  obtain ⟨n, en⟩ : ∃ n, nm s.data.toList = n := ⟨_, rfl⟩
  have e : nameB s.data.toList = decide (n > 0 ∧ n = s.size ∧ n ≤ 64) := by
    unfold nameB; rw [decide_eq_decide, en, szl]
    constructor
    · rintro ⟨h1, h2, h3⟩
      have : s.data.toList.length ≠ 0 := by intro h; exact h1 (List.length_eq_zero_iff.mp h)
      rw [szl] at this; omega
    · rintro ⟨h1, h2, h3⟩
      refine ⟨?_, by omega, by omega⟩
      intro h; rw [h] at en; simp [nm] at en; omega
  rw [e, en]
  by_cases h1 : n > 0
  · by_cases h2 : n = s.size
    · refine Ev.congr (f := fun _ => some (decide ((n : Int) ≤ 64))) (fun k => by rw [if_pos (by omega), if_pos (by omega)]) ?_
      rw [show decide (n > 0 ∧ n = s.size ∧ n ≤ 64) = decide ((n : Int) ≤ 64) by rw [decide_eq_decide]; omega]; exact Ev.now _
    · refine Ev.congr (f := fun _ => some false) (fun k => by rw [if_pos (by omega), if_neg (by omega)]) ?_
      rw [decide_eq_false (by omega)]; exact Ev.now _
  · refine Ev.congr (f := fun _ => some false) (fun k => by rw [if_neg (by omega)]) ?_
    rw [decide_eq_false (by omega)]; exact Ev.now _

theorem rNumber_ev (s : ByteArray) (hs : s.size ≤ Lim) : Ev (fun k => cuspref24_Number.f k s) (numB s.data.toList) := by
  unfold cuspref24_Number.f
  have R := rnumber s hs 0 (by omega)
  refine Ev.bind R ?_
  rw [List.drop_zero]
  obtain ⟨a, ha⟩ : ∃ a, num s.data.toList = a := ⟨_, rfl⟩
  have : numB s.data.toList = decide (a.1 > 0 ∧ a.1 = s.size ∧ a.2 ≤ 1100) := by unfold numB; rw [ha, szl]
  rw [this, ha]
  by_cases h1 : a.1 > 0
  · by_cases h2 : a.1 = s.size
    · refine Ev.congr (f := fun _ => some (decide ((a.2 : Int) ≤ 1100))) (fun k => by rw [if_pos (by omega), if_pos (by omega)]) ?_
      have : decide (a.1 > 0 ∧ a.1 = s.size ∧ a.2 ≤ 1100) = decide ((a.2 : Int) ≤ 1100) := by rw [decide_eq_decide]; omega
      rw [this]; exact Ev.now _
    · refine Ev.congr (f := fun _ => some false) (fun k => by rw [if_pos (by omega), if_neg (by omega)]) ?_
      rw [decide_eq_false (by omega)]; exact Ev.now _
  · refine Ev.congr (f := fun _ => some false) (fun k => by rw [if_neg (by omega)]) ?_
    rw [decide_eq_false (by omega)]; exact Ev.now _

theorem rValid_ev (f0 : Int) (s : ByteArray) (f2 : Int) (hs : s.size ≤ Lim) : Ev (fun k => cuspref24_Valid.f k f0 s f2) (validB f0 s.data.toList f2) := by
  unfold cuspref24_Valid.f validB
  by_cases h2 : f2 < 0
  · rw [if_pos h2]; refine Ev.congr (f := fun _ => some false) (fun k => by rw [if_pos h2]) (Ev.now _)
  by_cases h0 : f0 = 0
  · rw [if_neg h2, if_pos h0]
    refine Ev.congr (f := fun _ => some (decide (s.data.toList = []))) (fun k => ?_) (Ev.now _)
    rw [if_neg h2, if_pos h0, Go.ByteArray.toList_eq]; congr 1
    rw [Bool.eq_iff_iff]; simp
  by_cases h1 : f0 = 1
  · rw [if_neg h2, if_neg h0, if_pos h1]
    refine Ev.congr (f := fun k => (cuspref24_Number.f k s).bind fun t => some t) (fun k => by rw [if_neg h2, if_neg h0, if_pos h1]) (Ev.bind (rNumber_ev s hs) (Ev.now _))
  by_cases h3 : f0 = 2
  · rw [if_neg h2, if_neg h0, if_neg h1, if_pos h3]
    refine Ev.congr (f := fun k => (cuspref24_Name.f k s).bind fun t => some t) (fun k => by rw [if_neg h2, if_neg h0, if_neg h1, if_pos h3]) (Ev.bind (rName_ev s hs) (Ev.now _))
  by_cases h4 : f0 = 3
  · subst h4
    rw [if_neg h2, if_neg h0, if_neg h1, if_neg h3, if_pos rfl]
    by_cases h5 : s.size = 1
    · obtain ⟨c, hc⟩ : ∃ c, s.data.toList = [c] := by
        have : s.data.toList.length = 1 := by rw [szl]; exact h5
        exact List.length_eq_one_iff.mp this
      have hl : 0 < s.data.toList.length := by rw [hc]; simp
      have hb : bt s 0 = ((s.data.toList[0]'hl).toNat : Int) := bt_eq s 0 hl
      have hc0 : s.data.toList[0]'hl = c := by simp [hc]
      rw [hc0] at hb
      refine Ev.congr (f := fun k => (cuspref24_sign.f k (c.toNat : Int)).bind fun t => some t) (fun k => ?_) (Ev.bind (rsign c) ?_)
      · rw [if_neg h2, if_neg h0, if_neg h1, if_neg h3]; simp only [if_true]; rw [if_pos (by omega), if_pos (by omega), hb]
      · have : signB s.data.toList = isSign c := by unfold signB; rw [hc, Bool.eq_iff_iff]; simp
        rw [this]; exact Ev.now _
    · refine Ev.congr (f := fun k => some false) (fun k => ?_) ?_
      · rw [if_neg h2, if_neg h0, if_neg h1, if_neg h3]; simp only [if_true]; rw [if_neg (by omega)]
      · have : signB s.data.toList = false := by unfold signB; rw [szl]; simp [h5]
        rw [this]; exact Ev.now _
  · rw [if_neg h2, if_neg h0, if_neg h1, if_neg h3]
    rw [show (if f0 = 3 then signB s.data.toList else false) = false from if_neg h4]
    refine Ev.congr (f := fun _ => some false) (fun k => ?_) (Ev.now _)
    rw [if_neg h2, if_neg h0, if_neg h1, if_neg h3]
    exact if_neg h4
end Go.Proofs.Ytdcjgibdfpldgaa
