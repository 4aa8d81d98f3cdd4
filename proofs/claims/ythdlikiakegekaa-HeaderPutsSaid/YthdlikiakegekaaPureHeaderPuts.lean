/- HeaderPuts: the octets of any header are the document's, or that there are none; any numbers. -/
import Derived.Test.YthdlikiakegekaaHdrRow
import Derived.Test.YthdlikiakegekaaHdrLem
set_option linter.unusedVariables false
namespace Go.Proofs.Ythdlikiakegekaa.Pure
open Go.RowKit Go.Proofs.Ythdlikiakegekaa.S Go.Proofs.YthdlikiakegekaaW.PrintWords Go.Proofs.YthdlikiakegekaaW.PrintLast Go.Proofs.YthdlikiakegekaaW.PrintMore
open HdrLem

set_option maxRecDepth 100000 in
theorem HeaderPuts : splicerlaw29_HeaderPuts.Pure := by
  intro a0 a1 a2 a3 a4 a5 p _ _ _ _ _ _ _
  refine Ev.rounds ?_
  have h1 : Ev (fun _ : Nat => header_Put.f CrcX.crcTab a0 a1 a2 a3 a4 a5 p) (putA a0 a1 a2 a3 a4 a5 p) := by rw [hput]; exact Ev.now _
  have h2 : Ev (fun _ : Nat => header_Right.f a0 a1 a2 a3 a4 a5 p) (rightB a0 a1 a2 a3 a4 a5 p) := by rw [hright]; exact Ev.now _
  have h3 : Ev (fun _ : Nat => splicerref29_Right.f a0 a1 a2 a3 a4 a5 p) (rightB a0 a1 a2 a3 a4 a5 p) := by rw [rright]; exact Ev.now _
  have h4 : Ev (fun _ : Nat => splicerlaw29_awake.f) true := by rw [awakeH]; exact Ev.now _
  have h5 : Ev (fun _ : Nat => header_Put_nil.f () a0 a1 a2 a3 a4 a5 p) (⟨#[]⟩, 1) := Ev.now _
  show Ev (fun k => (header_Put.f CrcX.crcTab a0 a1 a2 a3 a4 a5 p).bind _) true
  refine Ev.bind h1 (Ev.bind (rputE a0 a1 a2 a3 a4 a5 p) (Ev.bind h5 (ev_pos rfl (ev_pos rfl (ev_pos rfl (Ev.bind h2 (Ev.bind h3 (ev_pos (by simp) (Ev.bind h4 (Ev.now true))))))))))

end Go.Proofs.Ythdlikiakegekaa.Pure
