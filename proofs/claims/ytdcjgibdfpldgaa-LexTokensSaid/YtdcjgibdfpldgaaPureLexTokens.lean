/- For every text the program's tokens, or its error and the place, are the document's. No condition beyond the form's own reach. -/
import Derived.Test.YtdcjgibdfpldgaaLawI
import Derived.Test.YtdcjgibdfpldgaaPLex9
namespace Go.Proofs.Ytdcjgibdfpldgaa.Pure
open Go.RowKit Go.Proofs.Ytdcjgibdfpldgaa.PLex Go.Proofs.Ytdcjgibdfpldgaa Go.Proofs.YtdcjgibdfpldgaaW.PrintWords Go.Proofs.YtdcjgibdfpldgaaW.PrintLast

theorem LexTokens : cusplaw24_LexTokens.Pure := by
  intro s hs
  apply Ev.rounds
  unfold cusplaw24_LexTokens.f
  refine Ev.bind (Tokens_ev s) (Ev.bind (rTokens_ev s) (Ev.bind (same_ev _ (by have := tokR_len s.data.toList; omega)) ?_))
  exact Ev.congr (fun k => by rw [if_pos rfl, if_pos rfl, if_pos rfl]) (Ev.bind works_ev (Ev.now _))

end Go.Proofs.Ytdcjgibdfpldgaa.Pure
