/- The rows of IndexTells and IndexBack: slots in. -/
import Derived.Test.YthdlikiakegekaaIx6
set_option linter.unusedVariables false
namespace Go.Proofs.Ythdlikiakegekaa.S
open Go.RowKit Go.Proofs.YthdlikiakegekaaW.PrintWords Go.Proofs.YthdlikiakegekaaW.PrintLast Go.Proofs.YthdlikiakegekaaW.PrintMore
def splicerlaw32_IndexTells.Pure : Prop := ∀ (l : List S53) (a1 : Int), (Lit.int .i64 a1).wf = true → ∃ k, splicerlaw32_IndexTells.f k l a1 = some true
theorem splicerlaw32_IndexTells.walk (P : splicerlaw32_IndexTells.Pure) (A0 : Option Addr) (c0 : Nat) (l0 : List S53) (a1 : Int) (w : World) (hr0 : Kd.C k53 w A0 l0.length l0) (hc0 : l0.length ≤ c0) {wf0 : Prop} (_ : wf0) (w1 : (Lit.int .i64 a1).wf = true) :
    Calls Try.prog 6 #[.slice A0 l0.length c0, .int .i64 a1] w fun e w' => e = .returned (.bool true) ∧ Below w.heap.size w w' := by
  obtain ⟨k, h⟩ := P l0 a1 w1
  refine (splicerlaw32_IndexTells.calls k A0 c0 l0 a1 true w hr0 hc0 h).mono ?_
  rintro e w' ⟨rfl, hd⟩
  exact ⟨rfl, hd⟩
def splicerlaw32_IndexBack.Pure : Prop := ∀ (l : List S53) (a1 : ByteArray) (a2 : Int), a1.size ≤ 140737488351232 → (Lit.int .i64 a2).wf = true → ∃ k, splicerlaw32_IndexBack.f k l a1 a2 = some true
theorem splicerlaw32_IndexBack.walk (P : splicerlaw32_IndexBack.Pure) (A0 : Option Addr) (c0 : Nat) (l0 : List S53) (a1 : ByteArray) (a2 : Int) (w : World) (hr0 : Kd.C k53 w A0 l0.length l0) (hc0 : l0.length ≤ c0) {wf0 : Prop} (_ : wf0) (w1 : a1.size ≤ 140737488351232) (w2 : (Lit.int .i64 a2).wf = true) :
    Calls Try.prog 8 #[.slice A0 l0.length c0, .string a1, .int .i64 a2] w fun e w' => e = .returned (.bool true) ∧ Below w.heap.size w w' := by
  obtain ⟨k, h⟩ := P l0 a1 a2 w1 w2
  refine (splicerlaw32_IndexBack.calls k A0 c0 l0 a1 a2 true w hr0 hc0 h).mono ?_
  rintro e w' ⟨rfl, hd⟩
  exact ⟨rfl, hd⟩
end Go.Proofs.Ythdlikiakegekaa.S
