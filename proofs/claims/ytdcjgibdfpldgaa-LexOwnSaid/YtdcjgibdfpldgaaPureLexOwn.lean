/- Tokens that are answered are their caller's: spoiling them changes no later answer. No condition beyond the form's own reach. -/
import Derived.Test.YtdcjgibdfpldgaaLawI
import Derived.Test.YtdcjgibdfpldgaaPLex13
namespace Go.Proofs.Ytdcjgibdfpldgaa.Pure
open Go.RowKit Go.Proofs.Ytdcjgibdfpldgaa.PLex Go.Proofs.Ytdcjgibdfpldgaa Go.Proofs.YtdcjgibdfpldgaaW.PrintWords Go.Proofs.YtdcjgibdfpldgaaW.PrintLast

theorem own_l0 (s : ByteArray) : ∀ (d i : Nat) (l : List S32), l.length - i = d → i ≤ l.length → l.length ≤ 65536 → Ev (fun k => cusplaw24_LexOwn.l0 k s l (i : Int)) true
  | 0, i, l, hd, hi, hl => by
    have S := same_ev (tokR s.data.toList).1 (by have := tokR_len s.data.toList; omega)
    have e : ((l ++ [(⟨8, (⟨#[]⟩ : ByteArray), 0⟩ : S32), (⟨8, (⟨#[]⟩ : ByteArray), 0⟩ : S32)]).length : Int) = (l.length : Int) + 2 := by simp
    obtain ⟨v, hv, g⟩ : ∃ v : Int, v = 8 ∧ (rd_T32 (l ++ [(⟨8, (⟨#[]⟩ : ByteArray), 0⟩ : S32), (⟨8, (⟨#[]⟩ : ByteArray), 0⟩ : S32)]) ((l.length : Int) + 1)).f0 = v := by
      refine ⟨8, rfl, ?_⟩
      unfold rd_T32
      rw [show ((l.length : Int) + 1).toNat = l.length + 1 by omega]
      simp [List.getD]
    refine Ev.step (f := fun k => (lex_Tokens.f k s).bind fun bt305 => ((cuspref24_Tokens.f k s).bind fun bt310 => ((cusplaw24_same.f k bt305.1 bt310.1).bind fun t315 => (if t315 = true then (if bt305.2.2 = bt310.2.2 then (if 0 ≤ (l.length : Int) + 1 then (if (l.length : Int) + 1 < (l.length : Int) + 2 then (if v = 8 then ((cusplaw24_works.f k).bind fun t317 => (some t317)) else (some false)) else (none)) else (none)) else (some false)) else (some false))))) (fun k => ?_) ?_
    · simp only [cusplaw24_LexOwn.l0]
      rw [if_neg (by omega), Option.bind_some, if_pos (by simp; omega), Option.bind_some, e, w64 (x := (l.length : Int) + 2 - 1) (by omega) (by omega), show (l.length : Int) + 2 - 1 = (l.length : Int) + 1 by omega, g]
    · refine Ev.bind (Tokens_ev s) (Ev.bind (rTokens_ev s) (Ev.bind S ?_))
      exact Ev.congr (fun k => by rw [if_pos rfl, if_pos rfl, if_pos (by omega), if_pos (by omega), if_pos hv]) (Ev.bind works_ev (Ev.now _))
  | d + 1, i, l, hd, hi, hl => by
    have W : wrap64 ((i : Int) + 1) = ((i + 1 : Nat) : Int) := by rw [w64] <;> omega
    refine Ev.step (fun k => ?_) (own_l0 s d (i + 1) (l.set i (⟨9, (⟨#[115, 112, 111, 105, 108, 116]⟩ : ByteArray), 0⟩ : S32)) (by simp; omega) (by simp; omega) (by simp; omega))
    simp only [cusplaw24_LexOwn.l0]
    rw [if_pos (by omega), if_pos (by omega), Int.toNat_natCast, W]
theorem LexOwn : cusplaw24_LexOwn.Pure := by
  intro s hs
  apply Ev.rounds
  unfold cusplaw24_LexOwn.f
  refine Ev.bind (Tokens_ev s) ?_
  exact own_l0 s _ 0 _ rfl (by omega) (tokR_len _)

end Go.Proofs.Ytdcjgibdfpldgaa.Pure
