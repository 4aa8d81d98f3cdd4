/- OctetWrites: for up to 30 pairs of numbers and a text of up to 100 bytes, what is written is the reference's octets; no condition beyond the statement's own guard. -/
import Derived.Test.YtaoodgijapiipaaSx3
namespace Go.Proofs.Ytaoodgijapiipaa.Pure
open Go.RowKit Go.Proofs.Ytaoodgijapiipaa.S Go.Proofs.YtaoodgijapiipaaW.PrintWords Go.Proofs.YtaoodgijapiipaaW.PrintLast

theorem OctetWrites : splicerlaw02_OctetWrites.Pure := by
  trivial

end Go.Proofs.Ytaoodgijapiipaa.Pure
