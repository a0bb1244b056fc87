/- For every text and place the line and the column, or the error, are the document's. No condition beyond the form's own reach. -/
import Derived.Test.YtdcjgibdfpldgaaLawJ
import Derived.Test.YtdcjgibdfpldgaaPLex11
namespace Go.Proofs.Ytdcjgibdfpldgaa.Pure
open Go.RowKit Go.Proofs.Ytdcjgibdfpldgaa.PLex Go.Proofs.Ytdcjgibdfpldgaa Go.Proofs.YtdcjgibdfpldgaaW.PrintWords Go.Proofs.YtdcjgibdfpldgaaW.PrintLast

theorem LexPlaces : cusplaw24_LexPlaces.Pure := by
  intro s a hs ha
  apply Ev.rounds
  unfold cusplaw24_LexPlaces.f
  refine Ev.bind (Place_ev s hs a) (Ev.bind (rPlace_ev s hs a) ?_)
  exact Ev.congr (fun k => by rw [if_pos rfl, if_pos rfl, if_pos rfl]) (Ev.bind works_ev (Ev.now _))

end Go.Proofs.Ytdcjgibdfpldgaa.Pure
