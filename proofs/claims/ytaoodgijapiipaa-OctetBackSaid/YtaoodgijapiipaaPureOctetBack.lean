/- OctetBack: for up to 30 numbers, what was written is read again and then nothing is left; no condition beyond the statement's own guard. -/
import Derived.Test.YtaoodgijapiipaaSx2
namespace Go.Proofs.Ytaoodgijapiipaa.Pure
open Go.RowKit Go.Proofs.Ytaoodgijapiipaa.S Go.Proofs.YtaoodgijapiipaaW.PrintWords Go.Proofs.YtaoodgijapiipaaW.PrintLast

theorem OctetBack : splicerlaw02_OctetBack.Pure := by
  trivial

end Go.Proofs.Ytaoodgijapiipaa.Pure
