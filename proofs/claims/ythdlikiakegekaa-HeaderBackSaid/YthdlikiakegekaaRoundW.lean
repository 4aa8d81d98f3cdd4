import Derived.RangeFuncNested
import Derived.RangeFuncBound
import Derived.RangeFuncCalls
import Derived.RangeFuncLeaves
import Derived.Test.YthdlikiakegekaaWLast
import Derived.Test.YthdlikiakegekaaWTab
import Derived.Test.YthdlikiakegekaaWKept
import Derived.Test.YthdlikiakegekaaWMore
import Derived.WalkKit
import Derived.OwnWalkIn
import Derived.TacticsInMore
import Derived.LoopNIn
import Derived.LoopIn
/-! A round of a range over a function, at the wide fence: what is walked without a fence serves in a round; the law of the loop. -/
set_option linter.unusedVariables false
set_option linter.unusedSimpArgs false
namespace Go.Proofs.Ythdlikiakegekaa.RoundW
open Go.RowKit Go.Proofs.YthdlikiakegekaaW.PrintWords Go.Proofs.YthdlikiakegekaaW.PrintLast
variable {P : Program} {ops : Array Oper} {Q : Exit → Act → World → Prop}
theorem wide_fn (f : FuncId) : Fence.wide.fn f = True := rfl
theorem wide_depth : Fence.wide.depth = none := rfl
/-- The fence of a round. -/
abbrev WR (l : Nat) : Fence := Fence.wide.inRound l
theorem callsR {l n : Nat} {f : FuncId} {args : Array Value} {w : World} {R : Ending → World → Prop} (h : Calls P f args w R) : CallsIn (WR l) n P f args w R := CallsIn.inRound l (callsIn_wide.2 h)
theorem rowsR {l n : Nat} {row : String} {args : Array Value} {w : World} {R : Value → World → Prop} (h : Rows P row args w R) : RowsIn (WR l) n P row args w R :=
  fun c cs _ => let ⟨v, w', r, s⟩ := h c cs; ⟨v, w', r, stepsIn_wide.2 s⟩
theorem operR {l n : Nat} {o : Oper} (hnd : ∀ c, o.op ≠ .defer c) {a : Act} {w : World} {K : Act → World → Prop} (h : o.wp P a w K Q) : o.wpIn (WR l) n P a w K Q := by
  refine ⟨fun _ _ => trivial, ?_⟩
  unfold Oper.wp at h
  rw [Oper.semAt_eq _ _ _ hnd]
  generalize (execOp a.eval o).run P w = r at *
  have hd : (WR l).depth.isSome = true → 1 ≤ n := fun h => by cases h
  cases r with
  | ok x w' =>
    cases x <;> simp only [Oper.uponIn, Oper.upon] at h ⊢ <;>
      first
        | exact h
        | exact h.elim
        | exact ⟨hd, callsR h⟩
        | exact ⟨hd, rowsR h⟩
  | halt x w' => cases x <;> simp only [Oper.uponIn, Oper.upon] at h ⊢ <;> exact h
theorem operR_mono {o : Oper} {a : Act} {w : World} {K K' : Act → World → Prop} (hK : ∀ a w, K a w → K' a w) (h : o.wp P a w K Q) : o.wp P a w K' Q := by
  unfold Oper.wp at *
  generalize (execOp a.eval o).run P w = r at *
  cases r with
  | ok x w' =>
    cases x <;> simp only [Oper.upon] at h ⊢ <;>
      first
        | exact hK _ _ h
        | exact h.elim
        | exact h.mono fun e w'' he => by cases e <;> first | exact hK _ _ he | exact he
        | exact Rows.mono h fun _ _ he => hK _ _ he
  | halt x w' => cases x <;> simp only [Oper.upon] at h ⊢ <;> exact h
theorem opsR {l n : Nat} (hnd : ∀ (i : Nat) o, ops[i]? = some o → ∀ c, o.op ≠ .defer c) (hQ : ¬ LetsOut Q) : ∀ (is : List Nat) (a : Act) (w : World), wpOps P ops Q is a w → wpOpsIn (WR l) n P ops Q is a w := by
  intro is
  induction is with
  | nil => exact fun _ _ h => h
  | cons i rest ih =>
    intro a w h
    simp only [wpOps, wpOpsIn] at h ⊢
    cases ho : ops[i]? with
    | none => simp only [ho] at h ⊢; exact ih _ _ h
    | some o =>
      simp only [ho] at h ⊢
      split
      · rename_i hw
        rw [if_pos hw] at h
        rcases h with h | ⟨_, h⟩
        · exact operR (hnd i o ho) (operR_mono (fun a w => ih a w) h)
        · exact absurd h hQ
      · rename_i hw
        rw [if_neg hw] at h
        exact ⟨fun _ _ => trivial, ih _ _ h⟩
def tameB (ops : Array Oper) : Bool := ops.all fun o => match o.op with | .defer _ => false | _ => true
theorem tameB_spec (h : tameB ops = true) : ∀ (i : Nat) o, ops[i]? = some o → ∀ c, o.op ≠ .defer c := by
  intro i o ho c hc
  have h1 := Array.all_eq_true_iff_forall_mem.1 h o (Array.mem_of_getElem? ho)
  simp [hc] at h1
/-- A region that draws its order, in a round: walked as everywhere. -/
theorem startR_ {S : World → Prop} {ds : List Nat} {id n l0 m : Nat} {a : Act} {w : World} (l : Array Bool) (ht : tameB ops = true) (hQ : ¬ LetsOut Q) (hm : P.follows .mixedOrders = true) (hn : ops.size = n) (hl : Array.replicate n false = l) (hS : S w.drew)
    (h : S w.drew → wpAnyLast P .any ops Q S ds n l a w.drew) : (Code.region id ops true).wpIn (WR l0) m P Q a w := by
  subst hn
  subst hl
  refine wpIn_region_draw fun t => opsR (tameB_spec ht) hQ _ _ _ ?_
  simp only [Region.schedule, hm, Bool.true_or, if_true]
  exact wpAny_sound ops.size t _ a _ (wpAny_of_last _ _ _ _ (h hS))
/-- A region in the text's order, in a round. -/
theorem regionR {id l0 m : Nat} {a : Act} {w : World} {l : List Oper} (ht : tameB l.toArray = true) (hQ : ¬ LetsOut Q) (h : wpOps P l.toArray Q (List.range l.toArray.size) a w) : (Code.region id l.toArray false).wpIn (WR l0) m P Q a w :=
  wpIn_region (opsR (tameB_spec ht) hQ _ _ _ h)

/-! ### Regions that draw their order, inside a fence whose functions are all: as PrintLast's words, with a round's yield among the operations -/
section
variable {F : Fence} {n : Nat} {md : Region.Mode} {S : World → Prop} {ds : List Nat}
def wpOpX (F : Fence) (n : Nat) (P : Program) (ops : Array Oper) (Q : Exit → Act → World → Prop) (i : Nat) (K : Act → World → Prop) (a : Act) (w : World) : Prop :=
  match ops[i]? with
  | none => K a w
  | some o => if Region.wanted o (yielded ops a.tmps) = true then o.uponIn F n P a K Q ((execOp a.eval o).run P w) else K (a.put o.dst undef) w
theorem uponX_mono {o : Oper} {a : Act} {K K' : Act → World → Prop} (h : ∀ a w, K a w → K' a w) {r : Result Next} (hh : o.uponIn F n P a K Q r) : o.uponIn F n P a K' Q r := by
  cases r with
  | ok x w' =>
    cases x <;> simp only [Oper.uponIn] at hh ⊢ <;>
      first
        | exact h _ _ hh
        | exact ⟨hh.1, CallsIn.mono hh.2 (fun e w'' he => by cases e <;> first | exact h _ _ he | exact he)⟩
        | exact ⟨hh.1, RowsIn.mono hh.2 (fun _ _ he => h _ _ he)⟩
        | exact ⟨hh.1, RoundIn.mono hh.2 (fun e w'' he => by cases e <;> first | exact h _ _ he | exact he)⟩
  | halt x w' => cases x <;> simp only [Oper.uponIn] at hh ⊢ <;> exact hh
theorem wpOpX_mono {i : Nat} {a : Act} {w : World} {K K' : Act → World → Prop} (h : ∀ a w, K a w → K' a w) (hh : wpOpX F n P ops Q i K a w) : wpOpX F n P ops Q i K' a w := by
  unfold wpOpX at *
  split
  · exact h _ _ (by simpa [*] using hh)
  · rename_i o ho
    simp only [ho] at hh
    split
    · rename_i hw; rw [if_pos hw] at hh; exact uponX_mono h hh
    · rename_i hw; rw [if_neg hw] at hh; exact h _ _ hh
theorem wpOpIn_of_X (hF : ∀ f, F.fn f) (ht : tameB ops = true) {i : Nat} {a : Act} {w : World} {K : Act → World → Prop} (hh : wpOpX F n P ops Q i K a w) : wpOpIn F n P ops Q i K a w := by
  unfold wpOpX wpOpIn at *
  split
  · simpa [*] using hh
  · rename_i o ho
    simp only [ho] at hh
    split
    · rename_i hw
      rw [if_pos hw] at hh
      refine ⟨fun _ _ => hF _, ?_⟩
      rw [Oper.semAt_eq _ _ _ (tameB_spec ht i o ho)]
      exact hh
    · rename_i hw
      rw [if_neg hw] at hh
      exact ⟨fun _ _ => hF _, hh⟩
def wpAnyX (F : Fence) (n : Nat) (P : Program) (md : Region.Mode) (ops : Array Oper) (Q : Exit → Act → World → Prop) (S : World → Prop) (ds : List Nat) : Nat → Array Bool → Act → World → Prop
  | 0, listed, a, w => Region.ready md ops listed = [] ∧ Q .normal a w
  | fuel + 1, listed, a, w =>
    (Region.ready md ops listed = [] → Q .normal a w) ∧
    ∀ i ∈ Region.ready md ops listed, wpOpX F n P ops Q i (fun a' w' => (i ∉ ds → S w → S w') ∧ wpAnyX F n P md ops Q S ds fuel (listed.setIfInBounds i true) a' w') a w
theorem wpAnyIn_of_X (hF : ∀ f, F.fn f) (ht : tameB ops = true) : ∀ (fuel : Nat) (listed : Array Bool) (a : Act) (w : World), wpAnyX F n P md ops Q S ds fuel listed a w → wpAnyIn F n P md ops Q fuel listed a w
  | 0, _, _, _, h => h
  | fuel + 1, _, _, _, h => ⟨h.1, fun i hi => wpOpIn_of_X hF ht (wpOpX_mono (fun a' w' h' => wpAnyIn_of_X hF ht fuel _ a' w' h'.2) (h.2 i hi))⟩
theorem yieldsX {i : Nat} {o : Oper} {v : Value} {a : Act} (hi : ops[i]? = some o) (hy : YieldsIf P ops S o v a) {K : Act → World → Prop} {w : World} (hS : S w) (h : K (a.put o.dst v) w) : wpOpX F n P ops Q i K a w := by
  unfold wpOpX
  simp only [hi]
  rcases hy with ⟨hw, hv⟩ | ⟨hw, rfl⟩
  · rw [if_pos hw, hv w hS]; exact h
  · rw [if_neg (by rw [hw]; decide)]; exact h
theorem wpOpX_putIf {j : Nat} {oi oj : Oper} {v : Value} (hj : ops[j]? = some oj) (hap : oi.apart ops oj = true)
    (hsi : ∀ cs b, oi.op ≠ .select cs b) (hsj : ∀ cs b, oj.op ≠ .select cs b)
    (hQ : ∀ c a w, Q (.panic c) (a.put oi.dst v) w → Q (.panic c) a w) {K : Act → World → Prop} {a : Act} {w : World}
    (hy : YieldsIf P ops S oi v a) (h : wpOpX F n P ops Q j K (a.put oi.dst v) w) :
    wpOpX F n P ops Q j (fun a' w' => YieldsIf P ops S oi v a' ∧ K (a'.put oi.dst v) w') a w := by
  obtain ⟨h1, h2, h3⟩ := Oper.apart_spec hap
  have keep : ∀ (a : Act), YieldsIf P ops S oi v a → ∀ u, YieldsIf P ops S oi v (a.put oj.dst u) := fun a hy u =>
    hy.of_same (execOp_put oi hsi a oj.dst u h3) (wanted_put oi a oj.dst u h3)
  have keepD : ∀ d, YieldsIf P ops S oi v { a with defers := d :: a.defers } := fun d => hy.of_same rfl rfl
  unfold wpOpX at *
  simp only [hj] at *
  rw [wanted_put oj a oi.dst v h1] at h
  split
  · rename_i hw
    rw [if_pos hw, execOp_put oj hsj a oi.dst v h1] at h
    generalize (execOp a.eval oj).run P w = r at *
    cases r with
    | ok x w' =>
      cases x <;> simp only [Oper.uponIn] at h ⊢
      case value u => exact ⟨keep a hy u, by rw [← Act.put_comm a v u h2]; exact h⟩
      case skip => exact ⟨keep a hy _, by rw [← Act.put_comm a v undef h2]; exact h⟩
      case defer d =>
        refine ⟨keep _ (keepD d) _, ?_⟩
        rw [← Act.put_comm _ v undef h2, ← Act.put_defers]
        exact h
      case enter f args =>
        refine ⟨h.1, CallsIn.mono h.2 fun e w'' he => ?_⟩
        cases e with
        | returned u => exact ⟨keep a hy u, by rw [← Act.put_comm a v u h2]; exact he⟩
        | panicked c => exact hQ _ _ _ he
        | outgrown => exact he
      case row row args => exact ⟨h.1, RowsIn.mono h.2 fun u w'' he => ⟨keep a hy u, by rw [← Act.put_comm a v u h2]; exact he⟩⟩
      case round l f tmps assign body =>
        refine ⟨h.1, RoundIn.mono h.2 fun e w'' he => ?_⟩
        cases e with
        | returned u => exact ⟨keep a hy u, by rw [← Act.put_comm a v u h2]; exact he⟩
        | panicked c => exact hQ _ _ _ he
        | outgrown => exact he
    | halt x w' =>
      cases x <;> simp only [Oper.uponIn] at h ⊢
      case panic u => exact hQ _ _ _ h
  · rename_i hw
    rw [if_neg hw] at h
    exact ⟨keep a hy _, by rw [← Act.put_comm a v undef h2]; exact h⟩
theorem wpOpX_put {j : Nat} {oi oj : Oper} {v : Value} (hj : ops[j]? = some oj) (hap : oi.apart ops oj = true)
    (hsi : ∀ cs b, oi.op ≠ .select cs b) (hsj : ∀ cs b, oj.op ≠ .select cs b)
    (hQ : ∀ c a w, Q (.panic c) (a.put oi.dst v) w → Q (.panic c) a w) {K : Act → World → Prop} {a : Act} {w : World}
    (hy : YieldsIf P ops (fun _ => True) oi v a) (h : wpOpX F n P ops Q j K (a.put oi.dst v) w) :
    wpOpX F n P ops Q j (fun a' w' => YieldsIf P ops (fun _ => True) oi v a' ∧ K (a'.put oi.dst v) w') a w := wpOpX_putIf hj hap hsi hsj hQ hy h
theorem wpAnyX_first {i : Nat} {oi : Oper} {v : Value} (hi : ops[i]? = some oi) (hsel : ∀ (j : Nat) (o : Oper) cs b, ops[j]? = some o → o.op ≠ .select cs b)
    (hQ : ∀ c a w, Q (.panic c) (a.put oi.dst v) w → Q (.panic c) a w) (m : Nat) :
    ∀ (fuel : Nat) (listed : Array Bool) (a : Act) (w : World),
      (∀ j oj, ops[j]? = some oj → j ≠ i → listed.getD j true = false → (∀ e ∈ oj.after, Region.binds md e = true → e.on ≠ i) → oi.apart ops oj = true) →
      ListedClosed md ops listed → (∀ d ∈ ds, listed.getD d true = false → Region.reachB md ops i m d = true) →
      i ∈ Region.ready md ops listed → YieldsIf P ops S oi v a → S w →
      wpAnyX F n P md ops Q S ds fuel (listed.setIfInBounds i true) (a.put oi.dst v) w → wpAnyX F n P md ops Q S ds (fuel + 1) listed a w := by
  intro fuel
  induction fuel with
  | zero =>
    intro listed a w _ _ _ hr hy hS H
    refine ⟨fun h => (by rw [h] at hr; cases hr), fun j hj => ?_⟩
    by_cases hji : j = i
    · subst hji; exact yieldsX hi hy hS ⟨fun _ h => h, H⟩
    · have := ready_mono hj hji
      rw [H.1] at this
      cases this
  | succ fuel ih =>
    intro listed a w hfree hc hd hr hy hS H
    refine ⟨fun h => (by rw [h] at hr; cases hr), fun j hj => ?_⟩
    by_cases hji : j = i
    · subst hji; exact yieldsX hi hy hS ⟨fun _ h => h, H⟩
    · have h1 := H.2 j (ready_mono hj hji)
      obtain ⟨hjun, oj, hoj, hall⟩ := mem_ready.1 hj
      have hiun := (mem_ready.1 hr).1
      have hnot : ∀ e ∈ oj.after, Region.binds md e = true → e.on ≠ i := fun e he hb heq => by
        have h1 := hall e he hb
        rw [heq] at h1
        rcases Nat.lt_or_ge i listed.size with h' | h'
        · simp [h'] at hiun h1; rw [hiun] at h1; cases h1
        · simp [Array.getElem?_eq_none h'] at h1
      have hjd : j ∉ ds := fun hm => Region.reach_not_ready hc (hd j hm hjun) hiun hj
      have h2 := wpOpX_putIf hoj (hfree j oj hoj hji hjun hnot) (fun cs b => hsel i oi cs b hi) (fun cs b => hsel j oj cs b hoj) hQ hy h1
      have hfree' : ∀ k ok, ops[k]? = some ok → k ≠ i → (listed.setIfInBounds j true).getD k true = false →
          (∀ e ∈ ok.after, Region.binds md e = true → e.on ≠ i) → oi.apart ops ok = true := fun k ok hk hki hun hno => by
        refine hfree k ok hk hki ?_ hno
        by_cases hjk : j = k
        · subst hjk; exact hjun
        · rw [getD_set_ne true hjk] at hun; exact hun
      have hd' : ∀ d ∈ ds, (listed.setIfInBounds j true).getD d true = false → Region.reachB md ops i m d = true := fun d hm hun => by
        refine hd d hm ?_
        by_cases hjk : j = d
        · subst hjk; exact hjun
        · rw [getD_set_ne true hjk] at hun; exact hun
      refine wpOpX_mono (fun a' w' h3 => ⟨h3.2.1, ih (listed.setIfInBounds j true) a' w' hfree' (hc.set hj) hd' (ready_mono hr (Ne.symm hji)) h3.1 (h3.2.1 hjd hS) ?_⟩) h2
      rw [Array.setIfInBounds_comm _ _ hji]
      exact h3.2.2
theorem wpAnyX_any {i : Nat} {oi : Oper} {v : Value} (hi : ops[i]? = some oi) (hsel : ∀ (j : Nat) (o : Oper) cs b, ops[j]? = some o → o.op ≠ .select cs b)
    (hQ : ∀ c a w, Q (.panic c) (a.put oi.dst v) w → Q (.panic c) a w) :
    ∀ (fuel : Nat) (listed : Array Bool) (a : Act) (w : World),
      (∀ j oj, ops[j]? = some oj → j ≠ i → listed.getD j true = false → (∀ e ∈ oj.after, Region.binds md e = true → e.on ≠ i) → oi.apart ops oj = true) →
      i ∈ Region.ready md ops listed → YieldsIf P ops (fun _ => True) oi v a →
      wpAnyX F n P md ops Q S ds fuel (listed.setIfInBounds i true) (a.put oi.dst v) w → wpAnyX F n P md ops Q S ds (fuel + 1) listed a w := by
  intro fuel
  induction fuel with
  | zero =>
    intro listed a w _ hr hy H
    refine ⟨fun h => (by rw [h] at hr; cases hr), fun j hj => ?_⟩
    by_cases hji : j = i
    · subst hji; exact yieldsX hi hy trivial ⟨fun _ h => h, H⟩
    · have := ready_mono hj hji
      rw [H.1] at this
      cases this
  | succ fuel ih =>
    intro listed a w hfree hr hy H
    refine ⟨fun h => (by rw [h] at hr; cases hr), fun j hj => ?_⟩
    by_cases hji : j = i
    · subst hji; exact yieldsX hi hy trivial ⟨fun _ h => h, H⟩
    · have h1 := H.2 j (ready_mono hj hji)
      obtain ⟨hjun, oj, hoj, hall⟩ := mem_ready.1 hj
      have hiun := (mem_ready.1 hr).1
      have hnot : ∀ e ∈ oj.after, Region.binds md e = true → e.on ≠ i := fun e he hb heq => by
        have h1 := hall e he hb
        rw [heq] at h1
        rcases Nat.lt_or_ge i listed.size with h' | h'
        · simp [h'] at hiun h1; rw [hiun] at h1; cases h1
        · simp [Array.getElem?_eq_none h'] at h1
      have h2 := wpOpX_put hoj (hfree j oj hoj hji hjun hnot) (fun cs b => hsel i oi cs b hi) (fun cs b => hsel j oj cs b hoj) hQ hy h1
      have hfree' : ∀ k ok, ops[k]? = some ok → k ≠ i → (listed.setIfInBounds j true).getD k true = false →
          (∀ e ∈ ok.after, Region.binds md e = true → e.on ≠ i) → oi.apart ops ok = true := fun k ok hk hki hun hno => by
        refine hfree k ok hk hki ?_ hno
        by_cases hjk : j = k
        · subst hjk; exact hjun
        · rw [getD_set_ne true hjk] at hun; exact hun
      refine wpOpX_mono (fun a' w' h3 => ⟨h3.2.1, ih (listed.setIfInBounds j true) a' w' hfree' (ready_mono hr (Ne.symm hji)) h3.1 ?_⟩) h2
      rw [Array.setIfInBounds_comm _ _ hji]
      exact h3.2.2
theorem startX_ {id m : Nat} {a : Act} {w : World} (l : Array Bool) (hF : ∀ f, F.fn f) (ht : tameB ops = true) (hm : P.follows .mixedOrders = true) (hn : ops.size = m) (hl : Array.replicate m false = l) (hS : S w.drew)
    (h : S w.drew → wpAnyX F n P .any ops Q S ds m l a w.drew) : (Code.region id ops true).wpIn F n P Q a w := by
  subst hn
  subst hl
  exact wpIn_region_any hm (wpAnyIn_of_X hF ht _ _ _ _ (h hS))
theorem takeX_ {i : Nat} {N : Option Tmp} {oi : Oper} {v : Value} {fuel : Nat} {l : Array Bool} {a : Act} {w : World} (l' : Array Bool) (hi : ops[i]? = some oi) (hN : oi.dst = N) (hc : takeB md ops ds l l' i = true)
    (hQ : ∀ c a w, Q (.panic c) (a.put oi.dst v) w → Q (.panic c) a w) (hy : YieldsIf P ops S oi v a) (hS : S w) {a' : Act} (ha : a.put N v = a')
    (h : wpAnyX F n P md ops Q S ds fuel l' a' w) : wpAnyX F n P md ops Q S ds (fuel + 1) l a w := by
  subst ha
  subst hN
  simp only [takeB, Bool.and_eq_true, beq_iff_eq] at hc
  obtain ⟨⟨⟨⟨⟨h1, h2⟩, h3⟩, h4⟩, h5⟩, h6⟩ := hc
  subst h6
  exact wpAnyX_first hi (Region.noSelect_spec h1) hQ ops.size fuel l a w (Region.free_spec hi h2) (Region.closedB_spec h4)
    (fun d hm hun => by have := List.all_eq_true.1 h5 d hm; rw [hun] at this; simpa using this) (by simpa using h3) hy hS h
theorem pureX_ {i : Nat} {N : Option Tmp} {oi : Oper} {v : Value} {fuel : Nat} {l : Array Bool} {a : Act} {w : World} (l' : Array Bool) (hi : ops[i]? = some oi) (hN : oi.dst = N) (hc : anyB md ops l l' i = true)
    (hQ : ∀ c a w, Q (.panic c) (a.put oi.dst v) w → Q (.panic c) a w) (hy : Yields P ops oi v a) {a' : Act} (ha : a.put N v = a')
    (h : wpAnyX F n P md ops Q S ds fuel l' a' w) : wpAnyX F n P md ops Q S ds (fuel + 1) l a w := by
  subst ha
  subst hN
  simp only [anyB, Bool.and_eq_true, beq_iff_eq] at hc
  obtain ⟨⟨⟨h1, h2⟩, h3⟩, h6⟩ := hc
  subst h6
  exact wpAnyX_any hi (Region.noSelect_spec h1) hQ fuel l a w (Region.free_spec hi h2) (by simpa using h3) hy.yieldsIf h
/-- One operation alone may come up now: it is run, S is shown behind it (for one of ds nothing is). -/
theorem oneX_ {i : Nat} {N : Option Tmp} {oi : Oper} {fuel : Nat} {l : Array Bool} {a : Act} {w : World} (l' : Array Bool) (hi : ops[i]? = some oi) (hN : oi.dst = N) (hc : readyB md ops l l' i = true) (hd : i ∉ ds)
    (h : ∀ K : Act → World → Prop, Shut (∀ a' w', S w' → (S w' → wpAnyX F n P md ops Q S ds fuel l' a' w') → K a' w') → if Region.wanted oi (yielded ops a.tmps) = true then oi.uponIn F n P a K Q ((execOp a.eval oi).run P w) else K (a.put N undef) w) :
    wpAnyX F n P md ops Q S ds (fuel + 1) l a w := by
  subst hN
  simp only [readyB, Bool.and_eq_true, beq_iff_eq] at hc
  obtain ⟨h1, h2⟩ := hc
  subst h2
  refine ⟨fun h0 => (by rw [h1] at h0; cases h0), fun j hj => ?_⟩
  rw [h1, List.mem_singleton] at hj
  subst hj
  unfold wpOpX
  simp only [hi]
  exact h _ (show Shut _ from fun a' w' hS hW => ⟨fun _ _ => hS, hW hS⟩)
theorem lastX_ {i : Nat} {N : Option Tmp} {oi : Oper} {fuel : Nat} {l : Array Bool} {a : Act} {w : World} (l' : Array Bool) (hi : ops[i]? = some oi) (hN : oi.dst = N) (hc : readyB md ops l l' i = true) (hd : i ∈ ds)
    (h : ∀ K : Act → World → Prop, Shut (∀ a' w', wpAnyX F n P md ops Q S ds fuel l' a' w' → K a' w') → if Region.wanted oi (yielded ops a.tmps) = true then oi.uponIn F n P a K Q ((execOp a.eval oi).run P w) else K (a.put N undef) w) :
    wpAnyX F n P md ops Q S ds (fuel + 1) l a w := by
  subst hN
  simp only [readyB, Bool.and_eq_true, beq_iff_eq] at hc
  obtain ⟨h1, h2⟩ := hc
  subst h2
  refine ⟨fun h0 => (by rw [h1] at h0; cases h0), fun j hj => ?_⟩
  rw [h1, List.mem_singleton] at hj
  subst hj
  unfold wpOpX
  simp only [hi]
  exact h _ (show Shut _ from fun a' w' hW => ⟨fun hn => absurd hd hn, hW⟩)
theorem doneX_ {l : Array Bool} {a : Act} {w : World} {m : Nat} (hr : (Region.ready md ops l == []) = true) (h : Q .normal a w) : wpAnyX F n P md ops Q S ds m l a w := by
  have hr' : Region.ready md ops l = [] := by simpa using hr
  cases m with
  | zero => exact ⟨hr', h⟩
  | succ m => exact ⟨fun _ => h, by rw [hr']; simp⟩
theorem normX_ {fuel : Nat} {l : Array Bool} {a a' : Act} {w : World} (ha : a = a') (h : wpAnyX F n P md ops Q S ds fuel l a' w) : wpAnyX F n P md ops Q S ds fuel l a w := by
  subst ha
  exact h
theorem with_tabX {m : Nat} {a : Act} {w : World} {l : Array Bool} {T : Bool × List (List Nat × List Nat)} {B : List Nat} (hT : rtab md ops = T) (hB : waitsOk T.2 B = true) (h : Aside0 (rtab md ops = T) → Aside0 (waitsOk T.2 B = true) → wpAnyX F n P md ops Q S ds m l a w) : wpAnyX F n P md ops Q S ds m l a w := h ⟨hT⟩ ⟨hB⟩
/-- A call of a Go function, by its contract without a fence. -/
theorem goesX_ {l : Nat} {oi : Oper} {N : Option Tmp} {a : Act} {w : World} {K : Act → World → Prop} {f : FuncId} {fn : Func} {as : Array Operand} {ts : Array TypeId} (hf : P.funcs[f]? = some fn) (hname : (fn.name == "runtime.NumGoroutine") = false) (hb : fn.body.isSome = true) (args : Array Value)
    (hw : Region.wanted oi (yielded ops a.tmps) = true) (hN : oi.dst = N) (hop : oi.op = .call { callee := .value (.func f), args := as, argTypes := ts }) (hargs : as.map a.eval = args)
    (h : Calls P f args w fun e w' => ∃ v, e = .returned v ∧ K (a.put N v) w') : if Region.wanted oi (yielded ops a.tmps) = true then oi.uponIn (WR l) n P a K Q ((execOp a.eval oi).run P w) else K (a.put N undef) w := by
  rw [if_pos hw]
  subst hN
  have he := enters_ hf hname hb args w
  have hrun : (execOp a.eval oi).run P w = .ok (.enter f args) w := by
    unfold execOp
    simp [hop, resolve, Deferred.ofValue, invoke, Act.eval, hargs, he]
  rw [hrun, Oper.uponIn_enter]
  refine ⟨fun h => (by cases h), (callsR h).mono fun e w'' hh => ?_⟩
  obtain ⟨v, rfl, hk⟩ := hh
  exact hk
/-- A call of the round's yield. -/
theorem yieldX_ {oi : Oper} {N : Option Tmp} {a : Act} {w : World} {K : Act → World → Prop} {l : Nat} {as : Array Operand} {ts : Array TypeId} {c : Operand} (args : Array Value) (hd : F.depth.isSome = true → 1 ≤ n)
    (hw : Region.wanted oi (yielded ops a.tmps) = true) (hN : oi.dst = N) (hop : oi.op = .call { callee := .value c, args := as, argTypes := ts }) (hc : a.eval c = .func (.yield l) #[] #[]) (hargs : as.map a.eval = args)
    (h : YieldAt F (n - 1) P l args w fun e w' => ∃ v, e = .returned v ∧ K (a.put N v) w') : if Region.wanted oi (yielded ops a.tmps) = true then oi.uponIn F n P a K Q ((execOp a.eval oi).run P w) else K (a.put N undef) w := by
  rw [if_pos hw]
  subst hN
  obtain ⟨fn, tmps, assign, body, hy, hR⟩ := h
  have hrun : (execOp a.eval oi).run P w = .ok (.round l fn tmps assign body) w := by
    unfold execOp
    simp [hop, resolve, hc, Deferred.ofValue, invoke, hargs, hy]
  rw [hrun, Oper.uponIn_round]
  refine ⟨hd, hR.mono fun e w'' hh => ?_⟩
  obtain ⟨v, rfl, hk⟩ := hh
  exact hk
/-- append(v, x), x the one element of a new row. -/
theorem appendX_ {oi : Oper} {N : Option Tmp} {a : Act} {W : World} {K : Act → World → Prop} (base : Nat) (hw : Region.wanted oi (yielded ops a.tmps) = true) (hN : oi.dst = N) (s x : Operand) (t e : TypeId) (z : Value) (bytes : Nat)
    (ho : oi.op = .call { callee := .builtin .append, args := #[s, x], argTypes := #[t, t] })
    (ht : P.underlying t = some (.slice e)) (hinfo : (P.info? e).map (fun i => (i.zero, i.size, i.bytes)) = some (some z, 1, bytes)) (hz : z.cells.size = 1) (hb0 : 0 < bytes)
    (v : Value) (m : Nat) (xs : List Value) (u : Value) (hs : a.eval s = v) (hx : a.eval x = .slice (some ⟨W.heap.size, 0, none⟩) 1 1) (h1 : u.oneCell' = true)
    (HO : W.ownsRow base e 1 v m xs) (hbase : base ≤ W.heap.size) (hl : (m + 1) * bytes ≤ 140737488355328)
    (h : ∀ v1 w1, w1.ownsRow base e 1 v1 (m + 1) (xs ++ [u]) → W.grownBy w1 v.ownBlock → K (a.put N v1) w1) :
    if Region.wanted oi (yielded ops a.tmps) = true then oi.uponIn F n P a K Q ((execOp a.eval oi).run P (W.alloc (.cells #[u] e))) else K (a.put N undef) (W.alloc (.cells #[u] e)) := by
  obtain ⟨i0, hi, hzz⟩ := Option.map_eq_some_iff.1 hinfo
  simp only [Prod.mk.injEq] at hzz
  obtain ⟨hz0, hz1, hz2⟩ := hzz
  have hlen : m + 1 ≤ 140737488355328 := Nat.le_trans (Nat.le_mul_of_pos_right _ hb0) hl
  rw [if_pos hw]
  obtain ⟨v1, w1, hr, hown, hg, _, hat⟩ := run_append_own_at (P := P) (W.alloc (.cells #[u] e)) base t oi.type e i0 z 1 bytes ht hi hz0 hz1 hz2 hz (by decide) v m xs (HO.alloc _) ⟨W.heap.size, 0, none⟩ 1 1 [u] (by simp)
    (by simpa using World.news_of_block (cs := #[u]) (t := e) (fr := (0, 0)) (heap_alloc_new W (.cells #[u] e))) (by simpa using h1) (by simp only [maxLen]; omega) hl (by simp; omega)
  have hrun : (execOp a.eval oi).run P (W.alloc (.cells #[u] e)) = .ok (.value v1) w1 := by
    unfold execOp
    simp only [ho, resolve, invoke, builtin, Sem.run_bind, Sem.run_pure, Result.andThen_ok, List.map_toArray, List.map_cons, List.map_nil, hs, hx, hr]
  rw [hrun, Oper.uponIn_value, hN]
  exact h v1 w1 hown (World.grownBy.trans (World.grownBy_alloc W _ _) hg)
/-- A round's answer as one Bool. -/
theorem yieldB {m l : Nat} {args : Array Value} {W : World} {A B : World → Prop} (h : YieldAt F m P l args W fun e W' => (e = .returned (.bool true) ∧ A W') ∨ (e = .returned (.bool false) ∧ B W')) :
    YieldAt F m P l args W fun e W' => ∃ b : Bool, e = .returned (.bool b) ∧ (b = true → A W') ∧ (b = false → B W') := by
  refine h.mono fun e W' hh => ?_
  rcases hh with ⟨rfl, h⟩ | ⟨rfl, h⟩
  · exact ⟨true, rfl, fun _ => h, fun h => by cases h⟩
  · exact ⟨false, rfl, fun h => (by cases h), fun _ => h⟩
end
/-! ### Marks: what a function with loops over iterators leaves with -/
section
variable {B : Nat} {Ds : List Nat} {W : World}
def markOf (D : Nat) : Deferred := { target := .collected D, args := #[] }
def Marked (B : Nat) (Ds : List Nat) (W : World) : Prop := Ds.Nodup ∧ ∀ D, D ∈ Ds → B ≤ D ∧ W.heap[D]? = some (.deferred (some []))
theorem Marked.nil (B : Nat) (W : World) : Marked B [] W := ⟨List.nodup_nil, fun _ h => by cases h⟩
theorem Marked.cons {D : Nat} (h : Marked B Ds W) (hB : B ≤ D) (hD : W.heap[D]? = some (.deferred (some []))) (hn : D ∉ Ds) : Marked B (D :: Ds) W :=
  ⟨List.nodup_cons.2 ⟨hn, h.1⟩, fun d hd => by
    rcases List.mem_cons.1 hd with rfl | hd
    · exact ⟨hB, hD⟩
    · exact h.2 d hd⟩
theorem Marked.same {W' : World} (h : Marked B Ds W) (hk : ∀ (k : Nat) (o : Obj), B ≤ k → W.heap[k]? = some o → o.isCells = false → W'.heap[k]? = some o) : Marked B Ds W' :=
  ⟨h.1, fun D hD => ⟨(h.2 D hD).1, hk _ _ (h.2 D hD).1 (h.2 D hD).2 rfl⟩⟩
theorem Marked.lt {D : Nat} (h : Marked B Ds W) (hD : D ∈ Ds) : D < W.heap.size := (Array.getElem?_eq_some_iff.1 (h.2 D hD).2).1
/-- What stands when the marks are taken up: all blocks of cells. -/
def Settled (B : Nat) (W W' : World) : Prop := (∀ (k : Nat) (o : Obj), W.heap[k]? = some o → o.isCells = true → W'.heap[k]? = some o) ∧ Below B W W'
theorem Settled.refl (B : Nat) (W : World) : Settled B W W := ⟨fun _ _ h _ => h, Below.refl _ _⟩
theorem leavesM {n : Nat} {fn : Func} {tmps : Array Value} {R : Ending → World → Prop} : ∀ (Ds : List Nat) (W : World), Marked B Ds W →
    (∀ W', Settled B W W' → ∃ v, (results fn tmps).run P W' = .ok v W' ∧ R (.returned v) W') → LeavesInM Fence.wide n P fn tmps R (Ds.map markOf) .returning W := by
  intro Ds
  induction Ds with
  | nil => intro W _ h; exact h W (Settled.refl _ _)
  | cons D Ds ih =>
    intro W hm h
    obtain ⟨hB, hD⟩ := hm.2 D List.mem_cons_self
    have hlt := (Array.getElem?_eq_some_iff.1 hD).1
    refine ⟨by simp, .inl ⟨D, _, rfl, run_takeDeferred hD, ?_⟩⟩
    refine ih _ ⟨(List.nodup_cons.1 hm.1).2, fun d hd => ⟨(hm.2 d (List.mem_cons_of_mem _ hd)).1, ?_⟩⟩ ?_
    · have hne : d ≠ D := fun e => (List.nodup_cons.1 hm.1).1 (e ▸ hd)
      exact (World.putObj_heap_other hne).trans (hm.2 d (List.mem_cons_of_mem _ hd)).2
    · intro W' ⟨h1, h2⟩
      refine h W' ⟨fun k o hk ho => h1 k o ?_ ho, ((Below.refl B W).grown (grownBy_putObj' W D _) (by omega) (fun k e => by cases e; exact hB)).trans h2⟩
      by_cases hkD : k = D
      · subst hkD; rw [hD] at hk; obtain rfl := Option.some.inj hk; exact absurd ho (by decide)
      · exact (World.putObj_heap_other hkD).trans hk
/-- A row of the call's own stands. -/
theorem R_settled {α : Type} {d : Kd α} {e base : Nat} {ok : Nat → Prop} {W' : World} {v : Value} {xs : List α} (h : d.R e W base ok v xs) (hs : ∀ (k : Nat) (o : Obj), W.heap[k]? = some o → o.isCells = true → W'.heap[k]? = some o) : d.R e W' base ok v xs :=
  Kd.R_mono (Kd.R_move (Kd.R_bound h) (fun k hk => by
    obtain ⟨_, _, _, q, _, cells, hc⟩ := hk
    exact (hs k _ hc rfl).trans hc.symm)) (fun _ hk => hk.1)
theorem own_settled {e base size n : Nat} {W' : World} {v : Value} {xs : List Value} (h : W.ownsRow base e size v n xs) (hs : ∀ (k : Nat) (o : Obj), W.heap[k]? = some o → o.isCells = true → W'.heap[k]? = some o) : W'.ownsRow base e size v n xs :=
  own_move h fun k hk => by
    obtain ⟨cells, hc⟩ := own_typed h k hk
    exact (hs k _ hc rfl).trans hc.symm
theorem cell_settled {a : Addr} {v : Value} {W' : World} (h : W.cell? a = some v) (hs : ∀ (k : Nat) (o : Obj), W.heap[k]? = some o → o.isCells = true → W'.heap[k]? = some o) : W'.cell? a = some v := by
  cases hb : W.heap[a.block]? with
  | none => simp [World.cell?, hb] at h
  | some o =>
    cases o with
    | cells cs t fr => rw [← h]; simp [World.cell?, hb, hs _ _ hb rfl]
    | _ => simp [World.cell?, hb] at h
theorem ownFrom_kept {β : Type} {B : Nat} {w₀ : World} {S : Nat → Prop} (hB : w₀.heap.size ≤ B) : OwnFrom B (fun (_ : β) W => Kept w₀ W S) :=
  fun _ X Y row hs hg hr => ⟨Nat.le_trans hs.1 hg.size, fun k hk hS => by
    refine (hg.block k (Nat.lt_of_lt_of_le hk hs.1) (fun e => ?_)).trans (hs.2 k hk hS)
    have := (hr k e.symm).1
    omega⟩
theorem keepsFrom_kept {B : Nat} {W' : World} {S : Nat → Prop} (h : Kept W W' S) (hS : ∀ k, S k → k < B) : KeepsFrom B W W' :=
  ⟨h.1, fun k o hB hk _ => (h.2 k (Array.getElem?_eq_some_iff.1 hk).1 (fun hs => by have := hS k hs; omega)).trans hk⟩
theorem ownFrom_cells {β : Type} {B : Nat} {I : β → World → Prop} (h : ∀ s X Y, I s X → (∀ (k : Nat) (o : Obj), X.heap[k]? = some o → o.isCells = true → Y.heap[k]? = some o) → I s Y) : OwnFrom B I :=
  fun s X Y row hs hg hr => h s X Y hs fun k o hk ho => by
    refine (hg.block k (Array.getElem?_eq_some_iff.1 hk).1 (fun e => ?_)).trans hk
    obtain ⟨_, o', ho', hc⟩ := hr k e.symm
    rw [hk] at ho'
    obtain rfl := Option.some.inj ho'
    rw [ho] at hc
    cases hc
theorem keepsFrom_cells {B : Nat} {W' : World} {S : Nat → Prop} (h : Kept W W' S) (hS : ∀ k, S k → ∀ o, W.heap[k]? = some o → Obj.isCells o = true) : KeepsFrom B W W' :=
  ⟨h.1, fun k o hB hk ho => (h.2 k (Array.getElem?_eq_some_iff.1 hk).1 (fun hs => by rw [hS k hs o hk] at ho; cases ho)).trans hk⟩
theorem kept_grown {W' : World} {row : Option Nat} (h : W.grownBy W' row) : Kept W W' (fun k => some k = row) := ⟨h.size, fun k hk hne => h.block k hk hne⟩
theorem own_kept {S : Nat → Prop} {W' : World} {base : Nat} {e : TypeId} {size m : Nat} {v : Value} {xs : List Value} (h : W.ownsRow base e size v m xs) (hk : Kept W W' S) (hne : ∀ k, v.ownBlock = some k → ¬ S k) : W'.ownsRow base e size v m xs :=
  own_move h fun k hv => hk.2 k (own_lt h k hv) (hne k hv)
theorem blk_keptS {S : Nat → Prop} {W' : World} {b : Nat} {o : Obj} (h : W.heap[b]? = some o) (hk : Kept W W' S) (hs : ¬ S b) : W'.heap[b]? = some o := (hk.2 b (Array.getElem?_eq_some_iff.1 h).1 hs).trans h
theorem kept_put {S : Nat → Prop} {l : Nat} {o' : Obj} (hl : S l) : Kept W (W.putObj l o') S :=
  ⟨by simp, fun i _ hi => World.putObj_heap_other (fun e => hi (e ▸ hl))⟩
theorem kept_t {S : Nat → Prop} {W1 W2 : World} (h : Kept W W1 S) (k : Kept W1 W2 S) : Kept W W2 S := h.then_ k (fun _ h => .inl h)
theorem kept_set {S : Nat → Prop} {p : Addr} (u : Value) (hp : S p.block) : Kept W (W.setCell p u) S :=
  ⟨by simp, fun i _ hi => Below.heap_setCell W p u i (fun e => hi (e ▸ hp))⟩
theorem boxed_kept {W' : World} {S : Nat → Prop} {b : Nat} {t : TypeId} {v : Value} (h : Boxed W b t v) (hk : Kept W W' S) (hs : ¬ S b) : Boxed W' b t v := (hk.2 b h.lt hs).trans h
theorem boxed_below {W' : World} {b : Nat} {t : TypeId} {v : Value} (h : Boxed W b t v) (hk : Below W.heap.size W W') : Boxed W' b t v := (hk.block b h.lt).trans h
/-- A function with loops over iterators, opened. -/
theorem calls_marks {P : Program} {f : FuncId} {fn : Func} {c : Code} {args : Array Value} {w : World} {R : Ending → World → Prop} (hf : P.funcs[f]? = some fn) (hb : fn.body = some c)
    (h : c.wp P (bodyPostM Fence.wide 9 P fn R) { tmps := args ++ Array.replicate (fn.ntmps - args.size) undef, defers := [] } w) : Calls P f args w R :=
  callsIn_wide.1 (callsIn_of_wp_marks hf hb trivial (wpIn_wide.2 h))
end
end Go.Proofs.Ythdlikiakegekaa.RoundW
