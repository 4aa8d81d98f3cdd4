/- The row of HeaderPuts: a struct of numbers in, and a number. -/
import Derived.Test.YthdlikiakegekaaHx6
import Derived.WideShapes
set_option linter.unusedVariables false
namespace Go.Proofs.Ythdlikiakegekaa.S
open Go.RowKit Go.WideShapes Go.Proofs.YthdlikiakegekaaW.PrintWords Go.Proofs.YthdlikiakegekaaW.PrintLast Go.Proofs.YthdlikiakegekaaW.PrintMore

def splicerlaw29_HeaderPuts.Pure : Prop := ∀ (a0 a1 a2 a3 a4 a5 p : Int), (Lit.int .i64 a0).wf = true → (Lit.int .i64 a1).wf = true → (Lit.int .i64 a2).wf = true → (Lit.int .i64 a3).wf = true → (Lit.int .i64 a4).wf = true → (Lit.int .i64 a5).wf = true → (Lit.int .i64 p).wf = true → ∃ k, splicerlaw29_HeaderPuts.f k a0 a1 a2 a3 a4 a5 p = some true
set_option maxRecDepth 100000 in
theorem splicerlaw29_HeaderPuts.walk (P : splicerlaw29_HeaderPuts.Pure) (v0 : Value) (x0 : S23) (a1 : Int) (w : World) (K0 : k23.K w x0 v0.cells.toList)
    (wf0 : (fun b : S.S23 => (fun x : Int × (Int × (Int × (Int × (Int × Int)))) => (fun n : Int => (Lit.int .i64 n).wf = true) x.1 ∧ (fun x : Int × (Int × (Int × (Int × Int))) => (fun n : Int => (Lit.int .i64 n).wf = true) x.1 ∧ (fun x : Int × (Int × (Int × Int)) => (fun n : Int => (Lit.int .i64 n).wf = true) x.1 ∧ (fun x : Int × (Int × Int) => (fun n : Int => (Lit.int .i64 n).wf = true) x.1 ∧ (fun x : Int × Int => (fun n : Int => (Lit.int .i64 n).wf = true) x.1 ∧ (fun n : Int => (Lit.int .i64 n).wf = true) x.2) x.2) x.2) x.2) x.2) ((fun x : S.S23 => (x.f0, x.f1, x.f2, x.f3, x.f4, x.f5)) b)) x0)
    (ok0 : ∃ base, Value.okWide Try.prog w .any base 23 v0) (w1 : (Lit.int .i64 a1).wf = true) :
    Calls Try.prog 3 #[v0, .int .i64 a1] w fun e w' => e = .returned (.bool true) ∧ Below w.heap.size w w' := by
  obtain ⟨_, ok0⟩ := ok0
  obtain ⟨cs, rfl, _⟩ := okWide_struct Try.underlying23 ok0
  have hcs := k23_open K0
  obtain rfl : cs = #[.int .i64 x0.f0, .int .i64 x0.f1, .int .i64 x0.f2, .int .i64 x0.f3, .int .i64 x0.f4, .int .i64 x0.f5] := by
    have := congrArg List.toArray hcs
    simpa [Value.cells] using this
  obtain ⟨k, h⟩ := P x0.f0 x0.f1 x0.f2 x0.f3 x0.f4 x0.f5 a1 wf0.1 wf0.2.1 wf0.2.2.1 wf0.2.2.2.1 wf0.2.2.2.2.1 wf0.2.2.2.2.2 w1
  refine (splicerlaw29_HeaderPuts.calls k _ _ _ _ _ _ _ true w h).mono ?_
  rintro e w' ⟨rfl, hd⟩
  exact ⟨rfl, hd⟩
end Go.Proofs.Ythdlikiakegekaa.S
