/- LaceGets: whatever octets there are (up to 200 bytes), the lengths that stand there are the reference's, and where they end -/
import Derived.Test.YthdlikiakegekaaLx4
namespace Go.Proofs.Ythdlikiakegekaa.Pure
open Go.RowKit Go.Proofs.Ythdlikiakegekaa.S Go.Proofs.YthdlikiakegekaaW.PrintWords Go.Proofs.YthdlikiakegekaaW.PrintLast

theorem LaceGets : splicerlaw30_LaceGets.Pure := by
  trivial

end Go.Proofs.Ythdlikiakegekaa.Pure
