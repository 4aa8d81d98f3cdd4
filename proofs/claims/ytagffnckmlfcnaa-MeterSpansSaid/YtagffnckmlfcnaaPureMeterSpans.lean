/- MeterSpans: no place is in two spans, beside each stands a place that is none such, or an end; what is trimmed is quiet, and power is not above the peak; any lists, any floor that may be. -/
import Derived.Test.YtagffnckmlfcnaaSpanLaw
import Derived.Test.YtagffnckmlfcnaaSpanRow
set_option linter.unusedVariables false
namespace Go.Proofs.Ytagffnckmlfcnaa.Pure
open Go.RowKit Go.Proofs.Ytagffnckmlfcnaa.S
theorem MeterSpans : splicerlaw47_MeterSpans.Pure := by
  intro l0 a1 a2 w1 w2
  have h1 : 0 ≤ a1 ∧ a1 ≤ 65535 := by have := w1; simp [Lit.wf, IntKind.min, IntKind.max, IntKind.bits, IntKind.signed] at this; exact this
  have h2 : 0 ≤ a2 ∧ a2 ≤ 255 := by have := w2; simp [Lit.wf, IntKind.min, IntKind.max, IntKind.bits, IntKind.signed] at this; exact this
  exact SpanLaw.spansE l0 a1 a2 h1 h2
end Go.Proofs.Ytagffnckmlfcnaa.Pure
