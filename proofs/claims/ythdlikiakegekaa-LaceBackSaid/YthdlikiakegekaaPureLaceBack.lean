/- LaceBack: lengths come back from their octets, in order, and then nothing is left; any list of up to 30 numbers, each taken modulo 1025. -/
import Derived.Test.YthdlikiakegekaaLx3
import Derived.Test.YthdlikiakegekaaLaceLem
namespace Go.Proofs.Ythdlikiakegekaa.Pure
open Go.RowKit Go.Proofs.Ythdlikiakegekaa.S Go.Proofs.YthdlikiakegekaaW.PrintWords Go.Proofs.YthdlikiakegekaaW.PrintLast
open LaceLem

theorem LaceBack : splicerlaw30_LaceBack.Pure := by
  intro l _ _ hw
  refine Ev.rounds ?_
  refine ev_if (fun h => ?_) (fun h => ?_)
  · rw [awakeE]; exact Ev.now true
  · refine back_0 l (by omega) (fun x hx => ?_) l.length 0 (by omega)
    have := hw x hx
    simp only [Lit.wf, decide_eq_true_eq, Bool.and_eq_true] at this
    have e1 : IntKind.u16.min = 0 := rfl
    have e2 : IntKind.u16.max = 65535 := rfl
    omega

end Go.Proofs.Ythdlikiakegekaa.Pure
