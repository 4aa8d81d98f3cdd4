/- GainFades: any fade at any sample is the reference's, for any four numbers; no condition. -/
import Derived.Test.YtaoodgijapiipaaSx9
import Derived.Test.YtaoodgijapiipaaFadeLem
namespace Go.Proofs.Ytaoodgijapiipaa.Pure
open Go.RowKit Go.Proofs.Ytaoodgijapiipaa.S Go.Proofs.YtaoodgijapiipaaW.PrintWords Go.Proofs.YtaoodgijapiipaaW.PrintLast

theorem GainFades : splicerlaw25_GainFades.Pure := by
  intro x y n i _ _ _ _
  refine ⟨10, ?_⟩
  unfold splicerlaw25_GainFades.f
  have h := FadeLem.fadeE x y n i 10 (by decide)
  rw [h.1, h.2, Option.bind_some, Option.bind_some, if_pos rfl]
  rfl

end Go.Proofs.Ytaoodgijapiipaa.Pure
