/- The printed function Tokens of the program answers as the plain words say. -/
import Derived.Test.YtdcjgibdfpldgaaLawD
namespace Go.Proofs.Ytdcjgibdfpldgaa
set_option linter.unusedVariables false
set_option linter.unusedSimpArgs false
open Go.RowKit Go.Proofs.Ytdcjgibdfpldgaa.PLex Go.Proofs.YtdcjgibdfpldgaaW.PrintWords

theorem blanks_f (s : ByteArray) (hs : s.size ≤ Lim) (i : Nat) : lex_blanks.f (s.extract i s.size) = some (blk false (s.data.toList.drop i) : Int) := by
  unfold lex_blanks.f; rw [if_pos, ext_l]
  have : (s.extract i s.size).size ≤ s.size := by simp
  unfold Lim at hs; omega

theorem tokens_j1_err (s : ByteArray) (out : List S32) (a : Int) (e x0 : Int) (x1 : ByteArray) (x2 : Int) (he : e ≠ 0) : Ev (fun k => lex_Tokens.j1 k s out a e x0 x1 x2) ([], a, e) :=
  Ev.step (f := fun _ => some ([], a, e)) (fun k => by simp only [lex_Tokens.j1]; rw [if_neg he]) (Ev.now _)
theorem tokens_j1_full (s : ByteArray) (out : List S32) (a : Int) (x0 : Int) (x1 : ByteArray) (x2 : Int) (h : out.length = 65536) : Ev (fun k => lex_Tokens.j1 k s out a 0 x0 x1 x2) ([], a, 271) :=
  Ev.step (f := fun _ => some ([], a, 271)) (fun k => by simp only [lex_Tokens.j1]; rw [if_pos trivial, if_pos (by omega)]) (Ev.now _)
theorem tokens_j1_end (s : ByteArray) (out : List S32) (a : Int) (x1 : ByteArray) (x2 : Int) (h : out.length < 65536) : Ev (fun k => lex_Tokens.j1 k s out a 0 0 x1 x2) (out ++ [⟨0, x1, a⟩], 0, 0) :=
  Ev.step (f := fun _ => some (out ++ [⟨0, x1, a⟩], 0, 0)) (fun k => by simp only [lex_Tokens.j1]; rw [if_pos trivial, if_neg (by omega), if_pos (by omega), Option.bind_some, if_pos trivial]) (Ev.now _)
theorem tokens_j1_on (s : ByteArray) (out : List S32) (a : Int) (x0 : Int) (x1 : ByteArray) (x2 : Int) (h : out.length < 65536) (h0 : x0 ≠ 0) (r : List S32 × Int × Int)
    (H : Ev (fun k => lex_Tokens.l0 k s (out ++ [⟨x0, x1, a⟩]) (wrap64 (a + (x1.size : Int)))) r) : Ev (fun k => lex_Tokens.j1 k s out a 0 x0 x1 x2) r :=
  Ev.step (f := fun k => lex_Tokens.l0 k s (out ++ [⟨x0, x1, a⟩]) (wrap64 (a + (x1.size : Int)))) (fun k => by
    simp only [lex_Tokens.j1]; rw [if_pos trivial, if_neg (by omega), if_pos (by omega), Option.bind_some, if_neg h0]) H

theorem bytesA_size (l : List UInt8) : (bytesA l).size = l.length := by unfold bytesA; simp [ByteArray.size]
theorem bytesA_list (l : List UInt8) : (bytesA l).data.toList = l := by unfold bytesA; simp

theorem tokens_l0 (s : ByteArray) (hs : s.size ≤ 1048576) : ∀ (f i : Nat) (out : List S32), i ≤ s.size → s.size - i < f → out.length ≤ 65536 →
    Ev (fun k => lex_Tokens.l0 k s out (i : Int)) (run f (s.data.toList.drop i) i out)
  | 0, i, out, hi, hf, ho => by omega
  | f + 1, i, out, hi, hf, ho => by
    have hL : s.size ≤ Lim := by unfold Lim; omega
    have hb := blk_le false (s.data.toList.drop i)
    rw [List.length_drop, szl] at hb
    obtain ⟨b, eb⟩ : ∃ b, blk false (s.data.toList.drop i) = b := ⟨_, rfl⟩
    have ebf := blanks_f s hL i
    rw [eb] at ebf hb
    have W : wrap64 ((i : Int) + (b : Int)) = ((i + b : Nat) : Int) := by rw [w64] <;> omega
    rw [run, eb, List.drop_drop]
    by_cases hend : i + b < s.size
    · have hne : s.data.toList.drop (i + b) ≠ [] := by
        intro h; have := congrArg List.length h; rw [List.length_drop, szl] at this; simp at this; omega
      rw [if_neg hne]
      have hx : (s.extract (i + b) s.size).data.toList = s.data.toList.drop (i + b) := ext_l s (i + b)
      have hxs : (s.extract (i + b) s.size).size ≤ Lim := by
        have : (s.extract (i + b) s.size).size ≤ s.size := by simp
        omega
      have F := first_ev (s.extract (i + b) s.size) hxs (by rw [hx]; exact hne)
      rw [hx] at F
      refine Ev.step (f := fun k => (lex_first.f k (s.extract (i + b) s.size)).bind fun t => lex_Tokens.j1 k s out ((i + b : Nat) : Int) t.2.2.2 t.1 t.2.1 t.2.2.1) (fun k => ?_) ?_
      · simp only [lex_Tokens.l0]; rw [if_pos (by omega), if_pos (by omega), Int.toNat_natCast, ebf, Option.bind_some, W, if_pos (by omega), if_pos (by omega), if_pos (by omega), Int.toNat_natCast]
      · refine Ev.bind F ?_
        obtain ⟨q, eq⟩ : ∃ q, fst (s.data.toList.drop (i + b)) = q := ⟨_, rfl⟩
        unfold fstR; rw [eq]
        by_cases he : q.1 = 0
        · have hlen := fst_len (s.data.toList.drop (i + b)) (by rw [eq]; exact he)
          rw [eq, List.length_drop, szl] at hlen
          rw [if_pos he, if_neg (by omega)]
          by_cases ho2 : out.length = 65536
          · rw [if_pos ho2]; exact tokens_j1_full _ _ _ _ _ _ ho2
          · rw [if_neg ho2]
            refine tokens_j1_on _ _ _ _ _ _ (by omega) (by omega) _ ?_
            have hsz : (bytesA ((s.data.toList.drop (i + b)).take q.2.2)).size = q.2.2 := by
              rw [bytesA_size, List.length_take, List.length_drop, szl]; omega
            rw [hsz, w64 (by omega) (by omega), show ((i + b : Nat) : Int) + (q.2.2 : Int) = ((i + b + q.2.2 : Nat) : Int) by omega, List.drop_drop]
            exact tokens_l0 s hs f (i + b + q.2.2) _ (by omega) (by omega) (by rw [List.length_append]; simp; omega)
        · rw [if_neg he, if_pos he]
          exact tokens_j1_err _ _ _ _ _ _ _ (by simp; omega)
    · have hnil : s.data.toList.drop (i + b) = [] := List.drop_of_length_le (by rw [szl]; omega)
      rw [if_pos hnil]
      refine Ev.step (f := fun k => lex_Tokens.j1 k s out ((i + b : Nat) : Int) 0 0 (⟨#[]⟩ : ByteArray) 0) (fun k => ?_) ?_
      · simp only [lex_Tokens.l0]; rw [if_pos (by omega), if_pos (by omega), Int.toNat_natCast, ebf, Option.bind_some, W, if_neg (by omega)]
      · by_cases ho2 : out.length = 65536
        · rw [if_pos ho2]; exact tokens_j1_full _ _ _ _ _ _ ho2
        · rw [if_neg ho2]; exact tokens_j1_end _ _ _ _ _ (by omega)

theorem Tokens_ev (s : ByteArray) : Ev (fun k => lex_Tokens.f k s) (tokR s.data.toList) := by
  unfold tokR lex_Tokens.f; rw [szl]
  by_cases h : s.size > 1048576
  · rw [if_pos h]; refine Ev.congr (f := fun _ => some ([], 0, 2)) (fun k => by rw [if_pos (by omega)]) (Ev.now _)
  · rw [if_neg h]
    refine Ev.congr (f := fun k => lex_Tokens.l0 k s [] ((0 : Nat) : Int)) (fun k => by rw [if_neg (by omega)]; rfl) ?_
    exact tokens_l0 s (by omega) (s.size + 1) 0 [] (by omega) (by omega) (by simp)
end Go.Proofs.Ytdcjgibdfpldgaa
