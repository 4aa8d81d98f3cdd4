import Derived.Test.YtaoodgijapiipaaGx7
import Derived.Test.YtaoodgijapiipaaWMore
/-! Rows of numbers compared, by the reference of num: plain lists. -/
set_option linter.unusedVariables false
namespace Go.Proofs.Ytaoodgijapiipaa.RowsLem
open Go.RowKit Go.Proofs.Ytaoodgijapiipaa.S Go.Proofs.YtaoodgijapiipaaW.PrintWords Go.Proofs.YtaoodgijapiipaaW.PrintLast Go.Proofs.YtaoodgijapiipaaW.PrintMore
theorem wS (i : Nat) (h : i < 1000000000) : wrap64 ((i : Int) + 1) = ((i + 1 : Nat) : Int) := by unfold wrap64; omega
theorem ev_if {α : Type} {c : Prop} [Decidable c] {g f : Nat → Option α} {r : α} (h1 : c → Ev g r) (h2 : ¬ c → Ev f r) : Ev (fun k => if c then g k else f k) r := by
  by_cases h : c
  · obtain ⟨K, hK⟩ := h1 h; exact ⟨K, fun k hk => by show (if c then g k else f k) = _; rw [if_pos h]; exact hK k hk⟩
  · obtain ⟨K, hK⟩ := h2 h; exact ⟨K, fun k hk => by show (if c then g k else f k) = _; rw [if_neg h]; exact hK k hk⟩
theorem ev_pos {α : Type} {c : Prop} [Decidable c] {g f : Nat → Option α} {r : α} (hc : c) (h1 : Ev g r) : Ev (fun k => if c then g k else f k) r := ev_if (fun _ => h1) (fun h => absurd hc h)
theorem ev_neg {α : Type} {c : Prop} [Decidable c] {g f : Nat → Option α} {r : α} (hc : ¬ c) (h1 : Ev f r) : Ev (fun k => if c then g k else f k) r := ev_if (fun h => absurd h hc) (fun _ => h1)
theorem ev_bind {α β : Type} {x : Option α} {f : Nat → α → Option β} {a : α} {r : β} (h : x = some a) (k : Ev (fun n => f n a) r) : Ev (fun n => x.bind (f n)) r := by
  subst h; exact k
theorem rd_at (l : List Int) (i : Nat) (h : i < l.length) : rd l (i : Int) = l[i] := by
  unfold rd; rw [Int.toNat_natCast, List.getD_eq_getElem?_getD, List.getElem?_eq_getElem h]; rfl
theorem rdL_at (l : List (List Int)) (i : Nat) (h : i < l.length) : rd_L1 l (i : Int) = l[i] := by
  unfold rd_L1; rw [Int.toNat_natCast, List.getD_eq_getElem?_getD, List.getElem?_eq_getElem h]; rfl
theorem same_l (a b : List Int) (hl : a.length = b.length) (hb : a.length < 1000000000) : ∀ d i : Nat, i + d = a.length → Ev (fun k => splicerref01_Same.l0 k a b (i : Int)) (decide (a.drop i = b.drop i)) := by
  intro d
  induction d with
  | zero =>
    intro i hi
    refine Ev.step (f := fun _ => some true) (fun k => ?_) ?_
    · simp only [splicerref01_Same.l0]; rw [if_neg (by omega)]
    · rw [decide_eq_true]
      · exact Ev.now true
      · rw [List.drop_eq_nil_of_le (by omega), List.drop_eq_nil_of_le (by omega)]
  | succ d ih =>
    intro i hi
    have ha : i < a.length := by omega
    have hbl : i < b.length := by omega
    refine Ev.step (f := fun k => if a[i] = b[i] then splicerref01_Same.l0 k a b ((i + 1 : Nat) : Int) else some false) (fun k => ?_) ?_
    · simp only [splicerref01_Same.l0]; rw [if_pos (by omega), if_pos (by omega), if_pos (by omega), rd_at a i ha, rd_at b i hbl, wS i (by omega)]
    · rw [List.drop_eq_getElem_cons ha, List.drop_eq_getElem_cons hbl]
      refine ev_if (fun h => ?_) (fun h => ?_)
      · have e : (a[i] :: a.drop (i + 1) = b[i] :: b.drop (i + 1)) ↔ (a.drop (i + 1) = b.drop (i + 1)) := by rw [h, List.cons.injEq]; exact ⟨fun e => e.2, fun e => ⟨rfl, e⟩⟩
        rw [decide_eq_decide.2 e]
        exact ih (i + 1) (by omega)
      · rw [decide_eq_false (fun e => h (List.cons.inj e).1)]
        exact Ev.now false
theorem sameE (a b : List Int) (hb : a.length < 1000000000) : Ev (fun k => splicerref01_Same.f k a b) (decide (a = b)) := by
  unfold splicerref01_Same.f
  refine ev_if (fun h => ?_) (fun h => ?_)
  · exact same_l a b (by omega) hb a.length 0 (by omega)
  · rw [decide_eq_false (by intro e; rw [e] at h; exact h rfl)]
    exact Ev.now false
theorem sameAll_l (a b : List (List Int)) (hl : a.length = b.length) (hb : a.length < 1000000000) (hr : ∀ x, x ∈ a → x.length < 1000000000) : ∀ d i : Nat, i + d = a.length → Ev (fun k => splicerref01_SameAll.l0 k a b (i : Int)) (decide (a.drop i = b.drop i)) := by
  intro d
  induction d with
  | zero =>
    intro i hi
    refine Ev.step (f := fun _ => some true) (fun k => ?_) ?_
    · simp only [splicerref01_SameAll.l0]; rw [if_neg (by omega)]
    · rw [decide_eq_true]
      · exact Ev.now true
      · rw [List.drop_eq_nil_of_le (by omega), List.drop_eq_nil_of_le (by omega)]
  | succ d ih =>
    intro i hi
    have ha : i < a.length := by omega
    have hbl : i < b.length := by omega
    refine Ev.step (f := fun k => (splicerref01_Same.f k a[i] b[i]).bind fun t => if t = true then splicerref01_SameAll.l0 k a b ((i + 1 : Nat) : Int) else some false) (fun k => ?_) ?_
    · simp only [splicerref01_SameAll.l0]; rw [if_pos (by omega), if_pos (by omega), if_pos (by omega), rdL_at a i ha, rdL_at b i hbl, wS i (by omega)]
    · rw [List.drop_eq_getElem_cons ha, List.drop_eq_getElem_cons hbl]
      refine Ev.bind (sameE _ _ (hr _ (List.getElem_mem ha))) ?_
      by_cases h : a[i] = b[i]
      · rw [decide_eq_true h]
        have e : (a[i] :: a.drop (i + 1) = b[i] :: b.drop (i + 1)) ↔ (a.drop (i + 1) = b.drop (i + 1)) := by rw [h, List.cons.injEq]; exact ⟨fun e => e.2, fun e => ⟨rfl, e⟩⟩
        rw [decide_eq_decide.2 e]
        exact ev_pos rfl (ih (i + 1) (by omega))
      · rw [decide_eq_false h, decide_eq_false (fun e => h (List.cons.inj e).1)]
        exact ev_neg (by decide) (Ev.now false)
theorem sameAllE (a b : List (List Int)) (hb : a.length < 1000000000) (hr : ∀ x, x ∈ a → x.length < 1000000000) : Ev (fun k => splicerref01_SameAll.f k a b) (decide (a = b)) := by
  unfold splicerref01_SameAll.f
  refine ev_if (fun h => ?_) (fun h => ?_)
  · exact sameAll_l a b (by omega) hb hr a.length 0 (by omega)
  · rw [decide_eq_false (by intro e; rw [e] at h; exact h rfl)]
    exact Ev.now false
/-- All numbers lie between two others. -/
def inB (lo hi : Int) (l : List Int) : Bool := l.all fun x => decide (lo ≤ x) && decide (x ≤ hi)
theorem within_l (a : List Int) (lo hi : Int) (hb : a.length < 1000000000) : ∀ d i : Nat, i + d = a.length → Ev (fun k => splicerref01_Within.l0 k a lo hi (i : Int)) (inB lo hi (a.drop i)) := by
  intro d
  induction d with
  | zero =>
    intro i hid
    refine Ev.step (f := fun _ => some true) (fun k => ?_) ?_
    · simp only [splicerref01_Within.l0]; rw [if_neg (by omega)]
    · rw [List.drop_eq_nil_of_le (by omega)]
      exact Ev.now true
  | succ d ih =>
    intro i hid
    have ha : i < a.length := by omega
    refine Ev.step (f := fun k => if a[i] < lo then some false else if a[i] > hi then some false else splicerref01_Within.l0 k a lo hi ((i + 1 : Nat) : Int)) (fun k => ?_) ?_
    · simp only [splicerref01_Within.l0]; rw [if_pos (by omega), if_pos (by omega), rd_at a i ha, wS i (by omega)]
    · rw [List.drop_eq_getElem_cons ha, inB, List.all_cons]
      refine ev_if (fun h => ?_) (fun h => ?_)
      · rw [decide_eq_false (show ¬ lo ≤ a[i] by omega)]; exact Ev.now false
      · refine ev_if (fun h' => ?_) (fun h' => ?_)
        · rw [decide_eq_false (show ¬ a[i] ≤ hi by omega), Bool.and_false]; exact Ev.now false
        · rw [decide_eq_true (show lo ≤ a[i] by omega), decide_eq_true (show a[i] ≤ hi by omega)]
          exact ih (i + 1) (by omega)
theorem withinE (a : List Int) (lo hi : Int) (hb : a.length < 1000000000) : Ev (fun k => splicerref01_Within.f k a lo hi) (inB lo hi a) := within_l a lo hi hb a.length 0 (by omega)
end Go.Proofs.Ytaoodgijapiipaa.RowsLem
