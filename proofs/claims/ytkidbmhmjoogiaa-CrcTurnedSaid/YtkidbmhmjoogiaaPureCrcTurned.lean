/- CrcTurned: a text of 1 to 600 octets of which some bits are turned, all within 32 neighbouring ones, has another sum, and the same sum where none is turned; no condition beyond the statement's own guards. -/
import Derived.Test.YtkidbmhmjoogiaaSx3
namespace Go.Proofs.Ytkidbmhmjoogiaa.Pure
open Go.RowKit Go.Proofs.Ytkidbmhmjoogiaa.S Go.Proofs.YtkidbmhmjoogiaaW.PrintWords Go.Proofs.YtkidbmhmjoogiaaW.PrintLast

/-- YOURS: 
What it reaches (each with k first where it has rounds; `.mono`: more rounds tell the same; `.l0`, ..: its loops, with `.mono_l`): crc_Make.f, splicerref03_Step.f, splicerref03_Entry.f, crc_Table_More.f, crc_Table_Sum.f, splicerlaw03_awake.f, splicerlaw03_CrcTurned.f -/
theorem CrcTurned : splicerlaw03_CrcTurned.Pure := by
  trivial

end Go.Proofs.Ytkidbmhmjoogiaa.Pure
