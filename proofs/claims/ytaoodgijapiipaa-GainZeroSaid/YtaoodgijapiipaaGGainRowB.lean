/- The rows of GainSounds and GainZero: a struct of lists in, and a list. Written by GainRow.py. -/
import Derived.Test.YtaoodgijapiipaaGx10
import Derived.WideShapes
set_option linter.unusedVariables false
namespace Go.Proofs.Ytaoodgijapiipaa.S
open Go.RowKit Go.WideShapes Go.Proofs.YtaoodgijapiipaaW.PrintWords Go.Proofs.YtaoodgijapiipaaW.PrintLast Go.Proofs.YtaoodgijapiipaaW.PrintMore

def splicerlaw25_GainZero.Pure : Prop := ∀ (a : List (List Int)) (g : List Int) (b : List (List Int)), ∃ k, splicerlaw25_GainZero.f k a g b = some true
theorem splicerlaw25_GainZero.walk (P : splicerlaw25_GainZero.Pure) (v0 : Value) (x0 : S61) (A1 : Option Addr) (c1 : Nat) (l1 : List (List Int)) (w : World) (K0 : k61.K w x0 v0.cells.toList)
    {wf0 : Prop} (_ : wf0) (ok0 : ∃ base, Value.okWide Try.prog w .any base 61 v0) (hr1 : Kd.C (Kd.slice 3 (Kd.int .i64)) w A1 l1.length l1) (hc1 : l1.length ≤ c1) {wf1 : Prop} (_ : wf1) :
    Calls Try.prog 10 #[v0, .slice A1 l1.length c1] w fun e w' => e = .returned (.bool true) ∧ Below w.heap.size w w' := by
  obtain ⟨_, ok0⟩ := ok0
  obtain ⟨cs, rfl, _⟩ := okWide_struct Try.underlying61 ok0
  obtain ⟨A00, c00, A01, c01, hcs, l00, g00, l01, g01⟩ := k61_open K0
  obtain rfl : cs = #[.slice A00 x0.f0.length c00, .slice A01 x0.f1.length c01] := by
    have := congrArg List.toArray hcs
    simpa [Value.cells] using this
  obtain ⟨k, h⟩ := P x0.f0 x0.f1 l1
  refine (splicerlaw25_GainZero.calls k A00 c00 x0.f0 A01 c01 x0.f1 A1 c1 l1 true w g00 l00 g01 l01 hr1 hc1 h).mono ?_
  rintro e w' ⟨rfl, hd⟩
  exact ⟨rfl, hd⟩
end Go.Proofs.Ytaoodgijapiipaa.S
