/- LaceTells: the octets of any lengths are the reference's, or that there are none; any list of up to 30 numbers. -/
import Derived.Test.YthdlikiakegekaaLx3
import Derived.Test.YthdlikiakegekaaLaceLem
namespace Go.Proofs.Ythdlikiakegekaa.Pure
open Go.RowKit Go.Proofs.Ythdlikiakegekaa.S Go.Proofs.YthdlikiakegekaaW.PrintWords Go.Proofs.YthdlikiakegekaaW.PrintLast
open LaceLem

theorem LaceTells : splicerlaw30_LaceTells.Pure := by
  intro l _ _ _
  refine Ev.rounds ?_
  refine ev_if (fun h => ?_) (fun h => ?_)
  · rw [awakeE]; exact Ev.now true
  · have hl : l.length ≤ 30 := by omega
    rw [allE l hl]
    show Ev (fun k => (splicerref30_All.f k l).bind fun bt => splicerlaw30_LaceTells.l0 k l (allS l []).1 (allS l []).2 bt.1 bt.2 0) true
    refine Ev.bind (rallE l hl) ?_
    exact tells_l l hl _ _ l.length 0 (by omega)

end Go.Proofs.Ythdlikiakegekaa.Pure
