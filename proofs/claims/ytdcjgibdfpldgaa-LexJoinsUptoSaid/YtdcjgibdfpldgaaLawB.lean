/- The printed function lex.number answers as the plain words say. -/
import Derived.Test.YtdcjgibdfpldgaaLawA
namespace Go.Proofs.Ytdcjgibdfpldgaa
set_option linter.unusedVariables false
set_option linter.unusedSimpArgs false
open Go.RowKit Go.Proofs.Ytdcjgibdfpldgaa.PLex Go.Proofs.YtdcjgibdfpldgaaW.PrintWords

theorem ext_l (s : ByteArray) (i : Nat) : (s.extract i s.size).data.toList = s.data.toList.drop i := by
  rw [Lib.extract_data, List.take_of_length_le (by simp)]
theorem digits_f (s : ByteArray) (i : Nat) : lex_digits.f (s.extract i s.size) = some (digs (s.data.toList.drop i) : Int) := by
  unfold lex_digits.f; rw [ext_l]
theorem digs_drop_le (l : List UInt8) (i : Nat) : digs (l.drop i) ≤ l.length - i := by
  have := digs_le (l.drop i); rwa [List.length_drop] at this
theorem u8_lit {c d : UInt8} : ((c.toNat : Int) = (d.toNat : Int)) ↔ c = d := by
  constructor
  · intro h; exact UInt8.toNat_inj.mp (by omega)
  · intro h; rw [h]

theorem number_j1 (s : ByteArray) (hs : s.size ≤ Lim) (a c : Nat) (ha : a ≤ s.size) :
    Ev (fun k => lex_number.j1 k s (a : Int) (c : Int)) (if c = 0 then (0, 0) else (((a + expo (s.data.toList.drop a) : Nat) : Int), (c : Int))) := by
  unfold Lim at hs
  by_cases hc : c = 0
  · refine Ev.step (f := fun _ => some (0, 0)) (fun k => by simp only [lex_number.j1]; rw [if_pos (by omega)]) ?_
    rw [if_pos hc]; exact Ev.now _
  rw [if_neg hc]
  -- the round that finds no exponent
  have NO : Ev (fun k => lex_number.j2 k s (a : Int) (c : Int) false) ((a : Int), (c : Int)) :=
    Ev.step (f := fun _ => some ((a : Int), (c : Int))) (fun k => by simp only [lex_number.j2]; rfl) (Ev.now _)
  by_cases hlt : a < s.size
  · have hl : a < s.data.toList.length := by rw [szl]; exact hlt
    have hd : (s.data.toList.drop a).head? = some (s.data.toList[a]'hl) := head_drop _ _ hl
    by_cases he : s.data.toList[a] = 101 ∨ s.data.toList[a] = 69
    · have W : wrap64 ((a : Int) + 1) = ((a + 1 : Nat) : Int) := by rw [w64] <;> omega
      have e1 : expo (s.data.toList.drop a) = (if (s.data.toList.drop (a + 1)).head? = some 43 ∨ (s.data.toList.drop (a + 1)).head? = some 45 then (if digs (s.data.toList.drop (a + 2)) > 0 then digs (s.data.toList.drop (a + 2)) + 2 else 0)
          else (if digs (s.data.toList.drop (a + 1)) > 0 then digs (s.data.toList.drop (a + 1)) + 1 else 0)) := by
        unfold expo; rw [if_pos (by rw [hd]; simpa using he), List.drop_drop, List.drop_drop]
      refine Ev.step (f := fun k => lex_number.j2 k s (a : Int) (c : Int) true) (fun k => ?_) ?_
      · simp only [lex_number.j1]; rw [if_neg (by omega), if_pos (by omega), if_pos (by omega), bt_eq s a hl]
        rcases he with he | he <;> rw [he] <;> rfl
      · -- with a sign, or without
        have S1 : ∀ (b : Bool) (m : Nat), m ≤ s.size → (a + 1 = m) → 
            Ev (fun k => lex_number.j3 k s (a : Int) (c : Int) (m : Int) false) (((a + (if digs (s.data.toList.drop m) > 0 then digs (s.data.toList.drop m) + 1 else 0) : Nat) : Int), (c : Int)) := by
          intro b m hm hm2
          have hle := digs_drop_le s.data.toList m
          rw [szl] at hle
          by_cases hp : digs (s.data.toList.drop m) > 0
          · refine Ev.step (f := fun _ => some (((a + (digs (s.data.toList.drop m) + 1) : Nat) : Int), (c : Int))) (fun k => ?_) ?_
            · simp only [lex_number.j3]; rw [if_neg (by simp), if_pos (by omega), if_pos (by omega), Int.toNat_natCast, digits_f]
              rw [Option.bind_some]; rw [if_pos (by omega), w64 (by omega) (by omega)]; congr 2; omega
            · rw [if_pos hp]; exact Ev.now _
          · refine Ev.step (f := fun _ => some ((a : Int), (c : Int))) (fun k => ?_) ?_
            · simp only [lex_number.j3]; rw [if_neg (by simp), if_pos (by omega), if_pos (by omega), Int.toNat_natCast, digits_f]
              rw [Option.bind_some]; rw [if_neg (by omega)]
            · rw [if_neg hp]; exact Ev.now _
        by_cases h2 : a + 1 < s.size
        · have hl2 : a + 1 < s.data.toList.length := by rw [szl]; exact h2
          have hd2 : (s.data.toList.drop (a + 1)).head? = some (s.data.toList[a + 1]'hl2) := head_drop _ _ hl2
          by_cases hg : s.data.toList[a + 1] = 43 ∨ s.data.toList[a + 1] = 45
          · have W2 : wrap64 (((a + 1 : Nat) : Int) + 1) = ((a + 2 : Nat) : Int) := by rw [w64] <;> omega
            have hle := digs_drop_le s.data.toList (a + 2)
            rw [szl] at hle
            refine Ev.step (f := fun k => lex_number.j3 k s (a : Int) (c : Int) ((a + 1 : Nat) : Int) true) (fun k => ?_) ?_
            · simp only [lex_number.j2]; rw [if_pos trivial, W, if_pos (by omega), if_pos (by omega), bt_eq s (a + 1) hl2]
              rcases hg with hg | hg <;> rw [hg] <;> rfl
            · rw [e1, if_pos (by rw [hd2]; simpa using hg)]
              by_cases hp : digs (s.data.toList.drop (a + 2)) > 0
              · refine Ev.step (f := fun _ => some (((a + (digs (s.data.toList.drop (a + 2)) + 2) : Nat) : Int), (c : Int))) (fun k => ?_) ?_
                · simp only [lex_number.j3]; rw [if_pos trivial, W2, if_pos (by omega), if_pos (by omega), Int.toNat_natCast, digits_f]
                  rw [Option.bind_some]; rw [if_pos (by omega), w64 (by omega) (by omega)]; congr 2; omega
                · rw [if_pos hp]; exact Ev.now _
              · refine Ev.step (f := fun _ => some ((a : Int), (c : Int))) (fun k => ?_) ?_
                · simp only [lex_number.j3]; rw [if_pos trivial, W2, if_pos (by omega), if_pos (by omega), Int.toNat_natCast, digits_f]
                  rw [Option.bind_some]; rw [if_neg (by omega)]
                · rw [if_neg hp]; exact Ev.now _
          · refine Ev.step (f := fun k => lex_number.j3 k s (a : Int) (c : Int) ((a + 1 : Nat) : Int) false) (fun k => ?_) ?_
            · simp only [lex_number.j2]; rw [if_pos trivial, W, if_pos (by omega), if_pos (by omega), bt_eq s (a + 1) hl2]
              have n1 : ¬ ((s.data.toList[a + 1].toNat : Int) = 43) := fun h => hg (.inl (u8_lit.mp h))
              have n2 : ¬ ((s.data.toList[a + 1].toNat : Int) = 45) := fun h => hg (.inr (u8_lit.mp h))
              rw [if_neg n1, beq_eq_false_iff_ne.mpr n2]
            · rw [e1, if_neg (by rw [hd2]; simpa using hg)]
              exact S1 true (a + 1) (by omega) rfl
        · refine Ev.step (f := fun k => lex_number.j3 k s (a : Int) (c : Int) ((a + 1 : Nat) : Int) false) (fun k => ?_) ?_
          · simp only [lex_number.j2]; rw [if_pos trivial, W, if_neg (by omega)]
          · rw [e1, if_neg (by rw [List.drop_of_length_le (by rw [szl]; omega)]; simp)]
            exact S1 true (a + 1) (by omega) rfl
    · refine Ev.step (f := fun k => lex_number.j2 k s (a : Int) (c : Int) false) (fun k => ?_) ?_
      · simp only [lex_number.j1]; rw [if_neg (by omega), if_pos (by omega), if_pos (by omega), bt_eq s a hl]
        have n1 : ¬ ((s.data.toList[a].toNat : Int) = 101) := fun h => he (.inl (u8_lit.mp h))
        have n2 : ¬ ((s.data.toList[a].toNat : Int) = 69) := fun h => he (.inr (u8_lit.mp h))
        rw [if_neg n1, beq_eq_false_iff_ne.mpr n2]
      · have e1 : expo (s.data.toList.drop a) = 0 := by unfold expo; rw [if_neg (by rw [hd]; simpa using he)]
        rw [e1]; exact NO
  · refine Ev.step (f := fun k => lex_number.j2 k s (a : Int) (c : Int) false) (fun k => ?_) ?_
    · simp only [lex_number.j1]; rw [if_neg (by omega), if_neg (by omega)]
    · have e1 : expo (s.data.toList.drop a) = 0 := by unfold expo; rw [List.drop_of_length_le (by rw [szl]; omega), if_neg (by simp)]
      rw [e1]; exact NO

theorem b46 : (((46 : UInt8).toNat : Int) == 46) = true := by decide
theorem j0_no (s : ByteArray) (x y : Int) (k : Nat) : lex_number.j0 (k + 1) s x y false = lex_number.j1 k s x y := by
  simp only [lex_number.j0]; rw [if_neg (by simp)]
theorem num_fin (l : List UInt8) (a c : Nat) (h : mant l = (a, c)) : (if c = 0 then ((0 : Int), (0 : Int)) else (((a + expo (l.drop a) : Nat) : Int), (c : Int))) = (((num l).1 : Int), ((num l).2 : Int)) := by
  unfold num; rw [h]
  by_cases hc : c = 0
  · rw [if_pos hc, if_pos hc]; simp only [Int.natCast_zero]
  · rw [if_neg hc, if_neg hc]

theorem number_dot {r : Int × Int} (s : ByteArray) (hs : s.size ≤ 140737488351232) (d e : Nat) (hd : d < s.size) (he : digs (s.data.toList.drop (d + 1)) = e) (hz : d + e ≠ 0)
    (J : Ev (fun k => lex_number.j1 k s ((d + (e + 1) : Nat) : Int) ((d + e : Nat) : Int)) r) :
    Ev (fun k => lex_number.j0 k s (d : Int) (d : Int) true) r := by
  have hle := digs_drop_le s.data.toList (d + 1)
  rw [szl, he] at hle
  have W : wrap64 ((d : Int) + 1) = ((d + 1 : Nat) : Int) := by rw [w64] <;> omega
  refine Ev.step (f := fun k => lex_number.j1 k s ((d + (e + 1) : Nat) : Int) ((d + e : Nat) : Int)) (fun k => ?_) J
  simp only [lex_number.j0]; rw [if_pos trivial, W, if_pos (by omega), if_pos (by omega), Int.toNat_natCast, digits_f, he]
  rw [Option.bind_some]
  rw [w64 (x := (d : Int) + (e : Int)) (by omega) (by omega), if_neg (by omega), w64 (x := (e : Int) + 1) (by omega) (by omega), w64 (by omega) (by omega)]
  rw [show (d : Int) + ((e : Int) + 1) = ((d + (e + 1) : Nat) : Int) by omega, show (d : Int) + (e : Int) = ((d + e : Nat) : Int) by omega]

theorem number_dot0 (s : ByteArray) (hs : s.size ≤ 140737488351232) (d e : Nat) (hd : d < s.size) (he : digs (s.data.toList.drop (d + 1)) = e) (hz : d + e = 0) :
    Ev (fun k => lex_number.j0 k s (d : Int) (d : Int) true) (0, 0) := by
  have W : wrap64 ((d : Int) + 1) = ((d + 1 : Nat) : Int) := by rw [w64] <;> omega
  refine Ev.step (f := fun _ => some (0, 0)) (fun k => ?_) (Ev.now _)
  simp only [lex_number.j0]; rw [if_pos trivial, W, if_pos (by omega), if_pos (by omega), Int.toNat_natCast, digits_f, he]
  rw [Option.bind_some]; rw [w64 (by omega) (by omega), if_pos (by omega)]

theorem number_f (s : ByteArray) (d : Nat) (h : digs s.data.toList = d) (k : Nat) : lex_number.f k s = if (d : Int) < s.size then (if 0 ≤ (d : Int) then lex_number.j0 k s d d (bt s d == 46) else none) else lex_number.j0 k s d d false := by
  subst h; rfl

theorem number_ev (s : ByteArray) (hs : s.size ≤ Lim) : Ev (fun k => lex_number.f k s) (((num s.data.toList).1 : Int), ((num s.data.toList).2 : Int)) := by
  have J := number_j1 s hs
  unfold Lim at hs
  have hn := digs_le s.data.toList
  rw [szl] at hn
  obtain ⟨d, hd⟩ : ∃ d, digs s.data.toList = d := ⟨_, rfl⟩
  have FIN := num_fin s.data.toList
  have M : mant s.data.toList = if (s.data.toList.drop d).head? = some 46 then
    if d + digs (s.data.toList.drop (d + 1)) = 0 then (0, 0) else (d + (digs (s.data.toList.drop (d + 1)) + 1), d + digs (s.data.toList.drop (d + 1)))
    else (d, d) := by unfold mant; rw [hd]
  rw [hd] at hn
  by_cases hlt : d < s.size
  · have hl : d < s.data.toList.length := by rw [szl]; exact hlt
    have hh : (s.data.toList.drop d).head? = some (s.data.toList[d]'hl) := head_drop _ _ hl
    by_cases hp : s.data.toList[d] = 46
    · refine Ev.congr (f := fun k => lex_number.j0 k s (d : Int) (d : Int) true) (fun k => ?_) ?_
      · rw [number_f s d hd, if_pos (by omega), if_pos (by omega), bt_eq s _ hl, hp, b46]
      · rw [if_pos (by rw [hh, hp])] at M
        obtain ⟨e, he⟩ : ∃ e, digs (s.data.toList.drop (d + 1)) = e := ⟨_, rfl⟩
        rw [he] at M
        have hle := digs_drop_le s.data.toList (d + 1)
        rw [szl, he] at hle
        by_cases hz : d + e = 0
        · rw [if_pos hz] at M
          rw [← FIN 0 0 M]; exact number_dot0 s hs d e hlt he hz
        · rw [if_neg hz] at M
          rw [← FIN _ _ M]; exact number_dot s hs d e hlt he hz (J _ _ (by omega))
    · refine Ev.congr (f := fun k => lex_number.j0 k s (d : Int) (d : Int) false) (fun k => ?_) ?_
      · rw [number_f s d hd, if_pos (by omega), if_pos (by omega), bt_eq s _ hl]
        have n1 : ¬ ((s.data.toList[d].toNat : Int) = 46) := fun h => hp (u8_lit.mp h)
        rw [beq_eq_false_iff_ne.mpr n1]
      · rw [if_neg (by rw [hh]; simpa using hp)] at M
        rw [← FIN _ _ M]
        exact Ev.step (f := fun k => lex_number.j1 k s (d : Int) (d : Int)) (fun k => j0_no _ _ _ k) (J _ _ hn)
  · refine Ev.congr (f := fun k => lex_number.j0 k s (d : Int) (d : Int) false) (fun k => ?_) ?_
    · rw [number_f s d hd, if_neg (by omega)]
    · rw [if_neg (by rw [List.drop_of_length_le (by rw [szl]; omega)]; simp)] at M
      rw [← FIN _ _ M]
      exact Ev.step (f := fun k => lex_number.j1 k s (d : Int) (d : Int)) (fun k => j0_no _ _ _ k) (J _ _ hn)
end Go.Proofs.Ytdcjgibdfpldgaa
