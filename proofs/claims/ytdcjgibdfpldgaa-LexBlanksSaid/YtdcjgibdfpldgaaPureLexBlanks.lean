/- Blanks and comments that are put between two tokens change nothing but places; for every text. No condition beyond the form's own reach. -/
import Derived.Test.YtdcjgibdfpldgaaBlanksA
import Derived.Test.YtdcjgibdfpldgaaPLex14
namespace Go.Proofs.Ytdcjgibdfpldgaa.Pure
set_option linter.unusedVariables false
set_option linter.unusedSimpArgs false
open Go.RowKit Go.Proofs.Ytdcjgibdfpldgaa.PLex Go.Proofs.Ytdcjgibdfpldgaa Go.Proofs.YtdcjgibdfpldgaaW.PrintWords Go.Proofs.YtdcjgibdfpldgaaW.PrintLast

theorem dapp (a b : ByteArray) : (a ++ b).data.toList = a.data.toList ++ b.data.toList := by simp
theorem works3 : Ev (fun k => (cusplaw24_works.f k).bind fun t => some t) true := Ev.bind works_ev (Ev.now _)
theorem rd_getD (l : List S32) (i : Nat) : rd_T32 l (i : Int) = l.getD i z32 := rfl
/-- An index that is turned into a list's. -/
theorem turn_idx (a : Int) (n : Nat) (h : 0 < n) (hn : n ≤ 65536) : ∃ k : Nat, k < n ∧ Int.tmod (wrap64 (Int.tmod a n + n)) n = k := by
  have h1 := Int.lt_tmod_of_pos a (show (0 : Int) < n by omega)
  have h2 := Int.tmod_lt_of_pos a (show (0 : Int) < n by omega)
  have W : wrap64 (Int.tmod a n + n) = Int.tmod a n + n := w64 (by omega) (by omega)
  rw [W]
  have h3 : 0 ≤ Int.tmod a n + n := by omega
  have h4 := Int.tmod_lt_of_pos (Int.tmod a n + n) (show (0 : Int) < n by omega)
  have h5 := Int.tmod_nonneg (n : Int) h3
  exact ⟨(Int.tmod (Int.tmod a n + n) n).toNat, by omega, by omega⟩

/-- The tokens behind the change: those ahead as they were, the others moved. -/
def insR (k c : Nat) (R : List S32) : List S32 := R.take k ++ (R.drop k).map (shift c)
theorem insR_len (k c : Nat) (R : List S32) : (insR k c R).length = R.length := by
  unfold insR; rw [List.length_append, List.length_map, List.length_take, List.length_drop]; omega
theorem insR_get (k c : Nat) (R : List S32) (i : Nat) (hi : i < R.length) (hk : k ≤ R.length) :
    (insR k c R).getD i z32 = if i < k then R.getD i z32 else shift c (R.getD i z32) := by
  unfold insR
  have hl : (R.take k).length = k := by rw [List.length_take]; omega
  simp only [List.getD]
  by_cases h : i < k
  · rw [if_pos h, List.getElem?_append_left (by omega), List.getElem?_take_of_lt h]
  · rw [if_neg h, List.getElem?_append_right (by omega), hl, List.getElem?_map, List.getElem?_drop, show k + (i - k) = i by omega]
    rw [List.getElem?_eq_getElem hi]; rfl

theorem blanks_l0 (R : List S32) (k : Nat) (b : ByteArray) (hk : k ≤ R.length) (hR : R.length ≤ 65536) (hb : b.size ≤ 6) (hpl : ∀ i, i < R.length → 0 ≤ (R.getD i z32).f2 ∧ (R.getD i z32).f2 ≤ 1048576) :
    ∀ (d i : Nat), R.length - i = d → i ≤ R.length → Ev (fun n => cusplaw24_LexBlanks.l0 n R (k : Int) b (insR k b.size R) (i : Int)) true
  | 0, i, hd, hi => by
    refine Ev.step (fun n => ?_) works3
    simp only [cusplaw24_LexBlanks.l0]; rw [if_neg (by omega)]
  | d + 1, i, hd, hi => by
    have W : wrap64 ((i : Int) + 1) = ((i + 1 : Nat) : Int) := by rw [w64] <;> omega
    have hl := insR_len k b.size R
    have hg := insR_get k b.size R i (by omega) hk
    obtain ⟨p1, p2⟩ := hpl i (by omega)
    -- what is wanted of the place
    have J : ∀ want : Int, want = (if i < k then (R.getD i z32).f2 else (R.getD i z32).f2 + (b.size : Int)) → Ev (fun n => cusplaw24_LexBlanks.j4 n R (k : Int) b (insR k b.size R) (i : Int) want) true := by
      intro want hw
      have h0 : (rd_T32 (insR k b.size R) (i : Int)).f0 = (rd_T32 R (i : Int)).f0 := by rw [rd_getD, rd_getD, hg]; split <;> rfl
      have h1 : (rd_T32 (insR k b.size R) (i : Int)).f1.toList = (rd_T32 R (i : Int)).f1.toList := by rw [rd_getD, rd_getD, hg]; split <;> rfl
      have h2 : (rd_T32 (insR k b.size R) (i : Int)).f2 = want := by rw [rd_getD, hg, hw]; split <;> rfl
      refine Ev.step (f := fun n => cusplaw24_LexBlanks.j5 n R (k : Int) b (insR k b.size R) (i : Int) false) (fun n => ?_) ?_
      · simp only [cusplaw24_LexBlanks.j4]
        rw [if_pos (by omega), if_pos (by omega), if_pos (by omega), if_pos h0, if_pos h1, h2, bne_self_eq_false]
      · refine Ev.step (fun n => ?_) (blanks_l0 R k b hk hR hb hpl d (i + 1) (by omega) (by omega))
        simp only [cusplaw24_LexBlanks.j5]; rw [if_neg (by simp), W]
    by_cases h : i < k
    · refine Ev.step (fun n => ?_) (J _ rfl)
      simp only [cusplaw24_LexBlanks.l0]; rw [if_pos (by omega), if_pos (by omega), if_neg (by omega), if_pos h]; rfl
    · refine Ev.step (fun n => ?_) (J _ rfl)
      simp only [cusplaw24_LexBlanks.l0]
      rw [if_pos (by omega), if_pos (by omega), if_pos (by omega), if_neg h, rd_getD, w64 (by omega) (by omega)]

theorem six_rd (a : Int) : ∃ k : Nat, k < 6 ∧ Int.tmod (wrap64 (Int.tmod a 6 + 6)) 6 = k ∧
    (rdOf ByteArray.empty ([(⟨#[32]⟩ : ByteArray), (⟨#[10]⟩ : ByteArray), (⟨#[9]⟩ : ByteArray), (⟨#[13]⟩ : ByteArray), (⟨#[32, 35, 32, 40, 120, 10]⟩ : ByteArray), (⟨#[35, 10]⟩ : ByteArray)] : List ByteArray) (k : Int)).data.toList ∈ six := by
  obtain ⟨k, h1, h2⟩ := turn_idx a 6 (by omega) (by omega)
  refine ⟨k, h1, h2, ?_⟩
  have : k = 0 ∨ k = 1 ∨ k = 2 ∨ k = 3 ∨ k = 4 ∨ k = 5 := by omega
  rcases this with h | h | h | h | h | h <;> subst h <;> decide

theorem run_places : ∀ (f : Nat) (x : List UInt8) (i : Nat) (out R : List S32), x.length < f → run f x i out = (out ++ R, 0, 0) → ∀ k, k < R.length → ∃ m : Nat, m ≤ x.length ∧ (R.getD k z32).f2 = ((i + m : Nat) : Int) := by
  intro f x i out R h hr k hk
  obtain ⟨m, h1, h2, _⟩ := run_ins (b := [32]) (by decide) f x i out R k h hr hk
  exact ⟨m, h1, h2⟩

theorem LexBlanks : cusplaw24_LexBlanks.Pure := by
  intro s a w hs ha hw
  apply Ev.rounds
  unfold cusplaw24_LexBlanks.f
  refine Ev.bind (Tokens_ev s) ?_
  have J0 : ∀ l, Ev (fun k => cusplaw24_LexBlanks.j0 k s a w l true) true := fun l => by
    refine Ev.step (fun k => ?_) works3
    simp only [cusplaw24_LexBlanks.j0]; rw [if_pos trivial]
  by_cases he : (tokR s.data.toList).2.2 = 0
  · refine Ev.congr (fun k => if_pos he) ?_
    by_cases hl0 : ((tokR s.data.toList).1.length : Int) = 0
    · exact Ev.congr (fun k => if_pos hl0) (J0 _)
    · refine Ev.congr (fun k => if_neg hl0) ?_
      by_cases hbig : (s.size : Int) > 524288
      · rw [decide_eq_true hbig]; exact J0 _
      · rw [decide_eq_false hbig]
        have hrun : tokR s.data.toList = run (s.data.toList.length + 1) s.data.toList 0 [] := by
          unfold tokR; rw [szl, if_neg (by omega)]
        have hlen := tokR_len s.data.toList
        obtain ⟨R, hR⟩ : ∃ R, tokR s.data.toList = (R, 0, 0) := by
          rw [hrun] at he ⊢
          obtain ⟨R, _, h⟩ := run_adds _ s.data.toList 0 [] (by omega) he
          exact ⟨R.map (shift 0), by have := h 0 [] rfl; simpa using this⟩
        rw [hR] at hl0 hlen ⊢
        simp only at hl0 hlen ⊢
        rw [hrun] at hR
        have hpos : 0 < R.length := by omega
        obtain ⟨k, hk, ek⟩ := turn_idx a R.length hpos hlen
        obtain ⟨j, hj, ej, hsix⟩ := six_rd w
        obtain ⟨B, hB⟩ : ∃ B, rdOf ByteArray.empty ([(⟨#[32]⟩ : ByteArray), (⟨#[10]⟩ : ByteArray), (⟨#[9]⟩ : ByteArray), (⟨#[13]⟩ : ByteArray), (⟨#[32, 35, 32, 40, 120, 10]⟩ : ByteArray), (⟨#[35, 10]⟩ : ByteArray)] : List ByteArray) (j : Int) = B := ⟨_, rfl⟩
        rw [hB] at hsix
        have hB6 : B.size ≤ 6 := by have := six_le hsix; rwa [szl] at this
        obtain ⟨m, hm, hm2, hm3⟩ := run_ins hsix (s.data.toList.length + 1) s.data.toList 0 [] R k (by omega) (by rw [hR]; rfl) hk
        rw [szl] at hm
        rw [Nat.zero_add] at hm2
        have hpl : ∀ i, i < R.length → 0 ≤ (R.getD i z32).f2 ∧ (R.getD i z32).f2 ≤ 1048576 := by
          intro i hi
          obtain ⟨m2, g1, g2⟩ := run_places (s.data.toList.length + 1) s.data.toList 0 [] R (by omega) (by rw [hR]; rfl) i hi
          rw [szl] at g1; rw [g2]; omega
        have hm2' : (rd_T32 R (k : Int)).f2 = (m : Int) := hm2
        have e1 : s.extract 0 m = bytesA (s.data.toList.take m) := ext_0 s m
        have e2 : s.extract m s.size = bytesA (s.data.toList.drop m) := by
          rw [ext_b, List.take_of_length_le (by rw [szl]; omega)]
        have hcat : ((s.extract 0 m ++ B) ++ s.extract m s.size).data.toList = s.data.toList.take m ++ B.data.toList ++ s.data.toList.drop m := by
          rw [e1, e2, dapp, dapp, bytesA_list, bytesA_list]
        have hs1 : (s.extract 0 m).size = m := ext0_size s m hm
        have hs2 : (s.extract m s.size).size = s.size - m := by simp
        have hnew : tokR ((s.extract 0 m ++ B) ++ s.extract m s.size).data.toList = (insR k B.size R, 0, 0) := by
          rw [hcat]
          have hl : (s.data.toList.take m ++ B.data.toList ++ s.data.toList.drop m).length = s.size + B.size := by
            rw [List.length_append, List.length_append, List.length_take, List.length_drop, szl, szl]; omega
          unfold tokR; rw [hl, if_neg (by omega)]
          have h1 : s.data.toList.length + 1 ≤ s.size + B.size + 1 := by rw [szl]; omega
          -- the rounds: as many as before are enough
          have hfu := run_fuel_of (s.data.toList.length + 1) (s.size + B.size + 1) (s.data.toList.take m ++ B.data.toList ++ s.data.toList.drop m) 0 [] h1 (by rw [hm3]) (by rw [hm3]; simp; omega)
          rw [hfu, hm3, szl]; rfl
        refine Ev.step (f := fun n => cusplaw24_LexBlanks.j1 n s w R (k : Int) (m : Int) false) (fun n => ?_) ?_
        · simp only [cusplaw24_LexBlanks.j0]
          rw [if_neg (by simp), if_neg hl0, ek, if_pos (by omega), if_pos (by omega), hm2', if_neg (by omega), decide_eq_false (by omega)]
        · refine Ev.step (f := fun n => (lex_Tokens.f n ((s.extract 0 m ++ B) ++ s.extract m s.size)).bind fun bt301 => (if bt301.2.2 = 0 then (cusplaw24_LexBlanks.j2 n R (k : Int) B bt301.1 ((bt301.1.length : Int) != (R.length : Int))) else (cusplaw24_LexBlanks.j2 n R (k : Int) B bt301.1 true))) (fun n => ?_) ?_
          · simp only [cusplaw24_LexBlanks.j1]
            rw [if_neg (by simp), Option.bind_some, ej, if_pos (by omega), if_pos (by simp; omega), if_pos (by omega), if_pos (by omega), hB, Int.toNat_natCast, if_pos (by rw [hs1]; omega), if_pos (by rw [ByteArray.size_append, hs1, hs2]; omega)]
          · refine Ev.bind (Tokens_ev _) ?_
            rw [hnew]
            refine Ev.congr (fun n => by rw [if_pos rfl, insR_len, bne_self_eq_false]) ?_
            refine Ev.step (fun n => ?_) (blanks_l0 R k B (by omega) hlen hB6 hpl _ 0 rfl (by omega))
            simp only [cusplaw24_LexBlanks.j2]; rw [if_neg (by simp)]; rfl
  · exact Ev.congr (fun k => if_neg he) (J0 _)
end Go.Proofs.Ytdcjgibdfpldgaa.Pure
