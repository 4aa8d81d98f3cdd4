-- Written for this claim by a program of the session (genrow.py); Lean checks it.
import Derived.Test.YtaoodgijapiipaaRows
import Derived.Test.YtaoodgijapiipaaGGainRowA
import Derived.Test.YtaoodgijapiipaaGPureGainSounds
import Derived.Test.YtaoodgijapiipaaNestW
import Derived.WalkKit
import Derived.ProofKit
import Derived.OpenShut
import Derived.ShutString
import Derived.ChangeOld
import Derived.Below
import Derived.SizedLaws
import Derived.ChangeSlices
namespace Go.Proofs.Ytaoodgijapiipaa.gainSounds
open Go.ChangeShapes Go.WideShapes Go.ChangeAt Go.RowKit Go.Proofs.YtaoodgijapiipaaW.PrintWords
open Go.ChangeMaps (open_string shut_string)
set_option linter.unusedVariables false
theorem own : ownKnob Try.prog.godebug = none := by kernel_rfl
theorem laidOut : laidOutB Try.prog = true := by kernel_rfl
theorem op0 : NestW.Op Try.prog 61 S.k61 (fun b : S.S61 => (fun x : (List (List Int)) × (List Int) => (fun xs : List (List Int) => xs.length ≤ maxLen ∧ ∀ x ∈ xs, (fun xs : List Int => xs.length ≤ maxLen ∧ ∀ x ∈ xs, (fun n : Int => (Lit.int .i64 n).wf = true) x) x) x.1 ∧ (fun xs : List Int => xs.length ≤ maxLen ∧ ∀ x ∈ xs, (fun n : Int => (Lit.int .i64 n).wf = true) x) x.2) ((fun x : S.S61 => (x.f0, x.f1)) b)) := (NestW.Op.iso (NestW.Op.struct Try.underlying61 (by kernel_rfl) (NestW.OpF.cons (NestW.Op.slice 59 Try.underlying58 (by kernel_rfl) (NestW.Op.slice 3 Try.underlying59 (by kernel_rfl) (NestW.Op.int Try.underlying3 (by kernel_rfl)))) rfl (NestW.OpF.one (NestW.Op.slice 3 Try.underlying59 (by kernel_rfl) (NestW.Op.int Try.underlying3 (by kernel_rfl))) rfl))) (fun x : S.S61 => (x.f0, x.f1)) (fun a => ⟨a.1, a.2⟩) (fun _ => rfl))
theorem op1 : NestW.Op Try.prog 58 (Kd.slice 59 (Kd.slice 3 (Kd.int .i64))) (fun xs : List (List Int) => xs.length ≤ maxLen ∧ ∀ x ∈ xs, (fun xs : List Int => xs.length ≤ maxLen ∧ ∀ x ∈ xs, (fun n : Int => (Lit.int .i64 n).wf = true) x) x) := (NestW.Op.slice 59 Try.underlying58 (by kernel_rfl) (NestW.Op.slice 3 Try.underlying59 (by kernel_rfl) (NestW.Op.int Try.underlying3 (by kernel_rfl))))
set_option maxRecDepth 100000 in
theorem lifted (os : Os) (started : os.Started) (H : Type) (enc : TypeId × Value → H) :
    ReturnsInHanded {} Try.checked os 8 .any (Rows.gainSoundsSpec.pre6 enc Try.prog Try.f8 Rows.gainSoundsRow.domain false) (Rows.gainSoundsSpec.post enc Try.prog Try.f8 false true false false) := by
  refine returnsInHanded_of_change_sized (C := Try.checked) own started (by kernel_rfl) Try.func8
    (ChangeSpec.witness6 (enc := enc) (C := Try.checked) false ⟨#[], #[.agg #[.slice none 0 0, .slice none 0 0], .slice none 0 0], []⟩ 8 (by kernel_rfl) (by kernel_rfl) (by kernel_rfl) (by kernel_rfl)) ?_
  intro W base args ds gs before hval0 hW hcnd hsz0 _
  have hsz : (DataW.weightsEach Try.prog (Try.f8.params.toList ++ Rows.gainSoundsSpec.plain.varTypes Try.prog) (ds ++ gs)).all (· ≤ reachBytes) = true := hsz0
  have hval : ∀ (j : Nat) t v, Try.f8.params[j]? = some t → args[j]? = some v → Value.okWide Try.prog W .any base t v := hval0
  have hW' := hW
  obtain ⟨p, q, hA0, hV, rfl, hfz, hnd⟩ := hW
  have hA : DataW.TrodAll enc Try.prog W 0 (fun _ => true) true Try.f8.params.toList args.toList ds p := hA0
  rw [Try.params8] at hA hval hsz
  obtain ⟨v0, vs0, d0, ds0, p0, q0, hargs, rfl, rfl, h0, r0⟩ := trodAll_cons hA
  obtain ⟨v1, vs1, d1, ds1, p1, q1, rfl, rfl, rfl, h1, r1⟩ := trodAll_cons r0
  obtain ⟨rfl, rfl, rfl⟩ := trodAll_nil r1
  obtain rfl : args = #[v0, v1] := by cases args; simp_all
  obtain ⟨rfl, rfl⟩ := trodVars_none hV
  have k0 := h0
  have lt0 : ∀ x ∈ p0, x.block < W.heap.size := by obtain ⟨m, hm⟩ := k0; exact DataW.trod_lt m _ _ _ hm
  obtain ⟨x0, K0, wf0⟩ := op0.arg h0
  obtain ⟨a1, len1, cap1, rfl⟩ := okWide_slice Try.underlying58 (hval 1 58 v1 rfl rfl)
  have k1 := h1
  have lt1 : ∀ x ∈ p1, x.block < W.heap.size := by obtain ⟨m, hm⟩ := k1; exact DataW.trod_lt m _ _ _ hm
  obtain ⟨l1, K1, wf1⟩ := op1.arg h1
  obtain ⟨A1, c1, hcs1, hc1, hr1⟩ := K1
  simp [Value.cells] at hcs1
  obtain ⟨rfl, rfl, rfl⟩ := hcs1
  refine (S.splicerlaw25_GainSounds.walk Pure.GainSounds v0 x0 _ _ l1 W K0 wf0 ⟨_, (hval 0 61 v0 rfl rfl)⟩ hr1 hc1 wf1).mono fun e W' ⟨he, bel⟩ => ?_
  clear hA0 hval0 hsz0 hsz
  subst he
  exact ⟨_, rfl, _, _, _, [], _, [], hW', trodAll_mk1 (shut_bool Try.underlying4 _), (trodAll_cons_mk (Below.trod laidOut (by kernel_rfl) (of_decide_eq_true (by kernel_rfl)) k0 bel lt0) (trodAll_cons_mk (Below.trod laidOut (by kernel_rfl) (of_decide_eq_true (by kernel_rfl)) k1 bel lt1) trodAll_mk0)), rfl, bel.frame _, fun h => by cases h⟩
theorem over : Rows.gainSoundsRow.holds Try.pinned (OpenSpec.ofChange Rows.gainSoundsSpec) :=
  OpenClaim.holds_of_wide 8 Try.f8 rfl rfl rfl rfl rfl rfl rfl ⟨rfl, rfl, rfl, rfl, rfl⟩ rfl rfl rfl rfl rfl (by kernel_rfl) Try.func8 (by kernel_rfl)
    (of_decide_eq_true (by kernel_rfl)) (by unfold Func.isWrapper; first | (rw [if_pos (by decide +kernel)]; kernel_rfl) | (rw [if_neg (by decide +kernel)]; exact ⟨rfl, rfl⟩))
    (fun os started H enc _ => lifted os started H enc)
theorem proved : Rows.GainSoundsSaid := over
#print axioms proved
end Go.Proofs.Ytaoodgijapiipaa.gainSounds
namespace Go.Proofs.Ytaoodgijapiipaa
/-- The row, under a short name, for the claim. -/
theorem gainSounds_holds : Rows.GainSoundsSaid := gainSounds.proved
end Go.Proofs.Ytaoodgijapiipaa
