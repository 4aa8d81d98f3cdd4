/- OctetNobody: who was not made writes and reads nothing at any number and place asked; no condition is laid down. -/
import Derived.Test.YtaoodgijapiipaaSx2
namespace Go.Proofs.Ytaoodgijapiipaa.Pure
open Go.RowKit Go.Proofs.Ytaoodgijapiipaa.S Go.Proofs.YtaoodgijapiipaaW.PrintWords Go.Proofs.YtaoodgijapiipaaW.PrintLast

theorem OctetNobody : splicerlaw02_OctetNobody.Pure := by
  trivial

end Go.Proofs.Ytaoodgijapiipaa.Pure
