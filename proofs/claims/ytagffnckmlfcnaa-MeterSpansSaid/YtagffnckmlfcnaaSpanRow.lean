/- The row of MeterSpans: lists of numbers, and two numbers. -/
import Derived.Test.YtagffnckmlfcnaaMs8
set_option linter.unusedVariables false
namespace Go.Proofs.Ytagffnckmlfcnaa.S
open Go.RowKit Go.Proofs.YtagffnckmlfcnaaW.PrintWords Go.Proofs.YtagffnckmlfcnaaW.PrintLast Go.Proofs.YtagffnckmlfcnaaW.PrintMore
def splicerlaw47_MeterSpans.Pure : Prop := ∀ (l0 : List (List Int)) (a1 a2 : Int), (Lit.int .u16 a1).wf = true → (Lit.int .u8 a2).wf = true → Ev (fun k => splicerlaw47_MeterSpans.f k l0 a1 a2) true
theorem splicerlaw47_MeterSpans.walk (P : splicerlaw47_MeterSpans.Pure) (A0 : Option Addr) (c0 : Nat) (l0 : (List (List Int))) (a1 : Int) (a2 : Int) (w : World) (hr0 : Kd.C (Kd.slice 3 (Kd.int .i64)) w A0 l0.length l0) (hc0 : l0.length ≤ c0) (wf0 : (fun xs : List (List Int) => xs.length ≤ maxLen ∧ ∀ x ∈ xs, (fun xs : List Int => xs.length ≤ maxLen ∧ ∀ x ∈ xs, (fun n : Int => (Lit.int .i64 n).wf = true) x) x) l0) (w1 : (Lit.int .u16 a1).wf = true) (w2 : (Lit.int .u8 a2).wf = true) :
    Calls Try.prog 3 #[.slice A0 l0.length c0, .int .u16 a1, .int .u8 a2] w fun e w' => e = .returned (.bool true) ∧ Below w.heap.size w w' := by
  obtain ⟨k, h⟩ := (P l0 a1 a2 w1 w2).rounds
  exact splicerlaw47_MeterSpans.calls k A0 c0 l0 a1 a2 true w hr0 hc0 h
end Go.Proofs.Ytagffnckmlfcnaa.S
