/- HeaderGets: whatever octets there are, their header is the document's, or why there is none; any text of up to 100 bytes. -/
import Derived.Test.YthdlikiakegekaaHx8
import Derived.Test.YthdlikiakegekaaHdrLem
set_option linter.unusedVariables false
namespace Go.Proofs.Ythdlikiakegekaa.Pure
open Go.RowKit Go.Proofs.Ythdlikiakegekaa.S Go.Proofs.YthdlikiakegekaaW.PrintWords Go.Proofs.YthdlikiakegekaaW.PrintLast Go.Proofs.YthdlikiakegekaaW.PrintMore
open HdrLem

set_option maxRecDepth 100000 in
theorem HeaderGets : splicerlaw29_HeaderGets.Pure := by
  intro s _
  refine Ev.rounds ?_
  have h4 : Ev (fun _ : Nat => splicerlaw29_awake.f) true := by rw [awakeH]; exact Ev.now _
  by_cases hl : (s.size : Int) > 100
  · exact ev_pos hl (Ev.bind h4 (Ev.now true))
  refine ev_neg hl ?_
  have h1 : Ev (fun _ : Nat => header_Get.f CrcX.crcTab s) (getA s) := by rw [hget s (by omega)]; exact Ev.now _
  have h5 : Ev (fun _ : Nat => header_Get_nil.f () s) (0, 0, 0, 0, 0, 0, 0, 1) := Ev.now _
  show Ev (fun k => (header_Get.f CrcX.crcTab s).bind _) true
  refine Ev.bind h1 (Ev.bind (rgetE s (by omega)) (Ev.bind h5 (ev_pos (by simp) (ev_pos rfl (ev_pos rfl (ev_pos rfl (Ev.bind h4 (Ev.now true))))))))

end Go.Proofs.Ythdlikiakegekaa.Pure
