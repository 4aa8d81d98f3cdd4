/- CrcTells: for up to 600 octets, any sum and any octet, the table's entry and the sums by the table are what the reference answers bit by bit; no condition beyond the statement's own guard. -/
import Derived.Test.YtkidbmhmjoogiaaSx1
namespace Go.Proofs.Ytkidbmhmjoogiaa.Pure
open Go.RowKit Go.Proofs.Ytkidbmhmjoogiaa.S Go.Proofs.YtkidbmhmjoogiaaW.PrintWords Go.Proofs.YtkidbmhmjoogiaaW.PrintLast

/-- YOURS: 
What it reaches (each with k first where it has rounds; `.mono`: more rounds tell the same; `.l0`, ..: its loops, with `.mono_l`): crc_Make.f, splicerref03_Step.f, splicerref03_Entry.f, crc_Table_More.f, crc_Table_Sum.f, splicerlaw03_awake.f, splicerref03_More.f, splicerref03_Sum.f, splicerlaw03_CrcTells.f -/
theorem CrcTells : splicerlaw03_CrcTells.Pure := by
  trivial

end Go.Proofs.Ytkidbmhmjoogiaa.Pure
