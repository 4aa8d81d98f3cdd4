/- OctetReads: whatever is asked of any octets (up to 300 bytes, 30 asks) is told as the reference's reader tells it -/
import Derived.Test.YtaoodgijapiipaaSx3
namespace Go.Proofs.Ytaoodgijapiipaa.Pure
open Go.RowKit Go.Proofs.Ytaoodgijapiipaa.S Go.Proofs.YtaoodgijapiipaaW.PrintWords Go.Proofs.YtaoodgijapiipaaW.PrintLast

theorem OctetReads : splicerlaw02_OctetReads.Pure := by
  trivial

end Go.Proofs.Ytaoodgijapiipaa.Pure
