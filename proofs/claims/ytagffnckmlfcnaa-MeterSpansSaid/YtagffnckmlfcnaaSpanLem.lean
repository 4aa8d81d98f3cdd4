import Derived.Test.YtagffnckmlfcnaaMetLem
/-! Spans of places: plain lists. -/
set_option linter.unusedVariables false
namespace Go.Proofs.Ytagffnckmlfcnaa.SpanLem
open Go.RowKit Go.Proofs.Ytagffnckmlfcnaa.S Go.Proofs.YtagffnckmlfcnaaW.PrintWords Go.Proofs.YtagffnckmlfcnaaW.PrintLast Go.Proofs.YtagffnckmlfcnaaW.PrintMore
open MetLem
/-- A span that may be, behind last. -/
structure SpX (p : Nat → Bool) (N : Nat) (least : Int) (last : Int) (x : S32) : Prop where
  lo : last < x.f0
  nn : 0 ≤ x.f0
  len : x.f0 + least ≤ x.f1
  hi : x.f1 ≤ N
  bef : x.f0 = 0 ∨ p (x.f0 - 1).toNat = false
  aft : x.f1 = N ∨ p x.f1.toNat = false
  all : ∀ j : Nat, x.f0 ≤ j → (j : Int) < x.f1 → p j = true
def SpOK (p : Nat → Bool) (N : Nat) (least : Int) : Int → List S32 → Prop
  | _, [] => True
  | last, x :: xs => SpX p N least last x ∧ SpOK p N least x.f1 xs
def lastE : Int → List S32 → Int
  | last, [] => last
  | _, x :: xs => lastE x.f1 xs
theorem SpOK.snoc {p : Nat → Bool} {N : Nat} {least : Int} : ∀ (l : List S32) (last : Int) (x : S32), SpOK p N least last l → SpX p N least (lastE last l) x → SpOK p N least last (l ++ [x]) := by
  intro l
  induction l with
  | nil => intro last x _ hx; exact ⟨hx, trivial⟩
  | cons y l ih => intro last x h hx; exact ⟨h.1, ih y.f1 x h.2 hx⟩
theorem lastE_snoc : ∀ (l : List S32) (last : Int) (x : S32), lastE last (l ++ [x]) = x.f1 := by
  intro l
  induction l with
  | nil => intro last x; rfl
  | cons y l ih => intro last x; exact ih y.f1 x
def sumL (l : List S32) : Int := l.foldr (fun x s => (x.f1 - x.f0) + s) 0
theorem sumL_app (a b : List S32) : sumL (a ++ b) = sumL a + sumL b := by
  unfold sumL
  induction a with
  | nil => simp
  | cons x a ih => simp only [List.cons_append, List.foldr_cons]; rw [ih]; omega
/-- How many places ahead of i are so. -/
def cnt (p : Nat → Bool) : Nat → Nat
  | 0 => 0
  | i + 1 => if p i = true then cnt p i + 1 else cnt p i
structure Inv (p : Nat → Bool) (N : Nat) (least : Int) (i : Nat) (s : Nat × List S32) : Prop where
  le : s.1 ≤ i
  all : ∀ j, s.1 ≤ j → j < i → p j = true
  bef : s.1 = 0 ∨ p (s.1 - 1) = false
  ok : SpOK p N least (-1) s.2
  last : lastE (-1) s.2 < s.1
  sum : sumL s.2 + ((i : Int) - s.1) ≤ cnt p i
  one : least = 1 → sumL s.2 + ((i : Int) - s.1) = cnt p i
theorem seg_ok {p : Nat → Bool} {N : Nat} {least : Int} {i : Nat} {s : Nat × List S32} (h : Inv p N least i s) (hl : 1 ≤ least) (hi : i ≤ N) (ha : i = N ∨ p i = false) :
    SpOK p N least (-1) (s.2 ++ seg least s.1 i) ∧ lastE (-1) (s.2 ++ seg least s.1 i) ≤ i ∧ sumL (s.2 ++ seg least s.1 i) ≤ cnt p i ∧ (least = 1 → sumL (s.2 ++ seg least s.1 i) = cnt p i) := by
  unfold seg
  have h1 := h.le
  have h2 := h.last
  have h3 := h.sum
  by_cases c : (s.1 : Int) < i ∧ least ≤ (i : Int) - s.1
  · rw [if_pos c]
    refine ⟨SpOK.snoc _ _ _ h.ok ⟨h2, by show (0 : Int) ≤ (s.1 : Int); omega, by show (s.1 : Int) + least ≤ (i : Int); omega, by show (i : Int) ≤ N; omega, ?_, ?_, ?_⟩, ?_, ?_, ?_⟩
    · rcases h.bef with e | e
      · exact .inl (by show (s.1 : Int) = 0; omega)
      · rcases Nat.eq_zero_or_pos s.1 with e0 | e0
        · exact .inl (by show (s.1 : Int) = 0; omega)
        · exact .inr (by show p ((s.1 : Int) - 1).toNat = false; rw [show ((s.1 : Int) - 1).toNat = s.1 - 1 by omega]; exact e)
    · rcases ha with e | e
      · exact .inl (by show (i : Int) = N; omega)
      · exact .inr (by show p ((i : Int)).toNat = false; rw [Int.toNat_natCast]; exact e)
    · intro j hj1 hj2
      exact h.all j (by have : (s.1 : Int) ≤ j := hj1; omega) (by have : (j : Int) < i := hj2; omega)
    · rw [lastE_snoc]; exact Int.le_refl _
    · rw [sumL_app]; show sumL s.2 + (((i : Int) - s.1) + 0) ≤ _; omega
    · intro e; have := h.one e; rw [sumL_app]; show sumL s.2 + (((i : Int) - s.1) + 0) = _; omega
  · rw [if_neg c, List.append_nil]
    refine ⟨h.ok, by omega, by omega, fun e => ?_⟩
    have := h.one e
    omega
theorem inv_step {p : Nat → Bool} {N : Nat} {least : Int} (hl : 1 ≤ least) : ∀ i, i ≤ N → Inv p N least i (spS p least i) := by
  intro i
  induction i with
  | zero => intro _; exact ⟨Nat.le_refl _, fun j _ h => absurd h (Nat.not_lt_zero _), .inl rfl, trivial, by show (-1 : Int) < 0; decide, by show (0 : Int) + (0 - 0) ≤ 0; decide, fun _ => rfl⟩
  | succ i ih =>
    intro hi
    have h := ih (by omega)
    unfold spS
    by_cases hp : p i = true
    · rw [if_pos hp]
      have hc : cnt p (i + 1) = cnt p i + 1 := by show (if p i = true then _ else _) = _; rw [if_pos hp]
      have h1 := h.le
      have h3 := h.sum
      refine ⟨by omega, fun j hj1 hj2 => ?_, h.bef, h.ok, h.last, by rw [hc]; omega, fun e => by rw [hc]; have := h.one e; omega⟩
      by_cases e : j = i
      · subst e; exact hp
      · exact h.all j hj1 (by omega)
    · have hp' : p i = false := by simpa using hp
      rw [if_neg hp]
      have hc : cnt p (i + 1) = cnt p i := by show (if p i = true then _ else _) = _; rw [if_neg hp]
      obtain ⟨k1, k2, k3, k4⟩ := seg_ok h hl (by omega) (.inr hp')
      refine ⟨Nat.le_refl _, fun j hj1 hj2 => ?_, .inr hp', k1, ?_, ?_, fun e => ?_⟩
      · have : i + 1 ≤ j := hj1
        omega
      · show lastE (-1) (_ ++ _) < ((i + 1 : Nat) : Int)
        omega
      · rw [hc]
        show sumL (_ ++ _) + (((i + 1 : Nat) : Int) - ((i + 1 : Nat) : Int)) ≤ _
        omega
      · rw [hc]
        have := k4 e
        show sumL (_ ++ _) + (((i + 1 : Nat) : Int) - ((i + 1 : Nat) : Int)) = _
        omega
/-- What spans are told: each may be, behind the last one; together they are no more than the places that are so, just these at least 1. -/
theorem spL_ok (p : Nat → Bool) (N : Nat) (least : Int) (hl : 1 ≤ least) : SpOK p N least (-1) (spL p least N) ∧ sumL (spL p least N) ≤ cnt p N ∧ (least = 1 → sumL (spL p least N) = cnt p N) := by
  obtain ⟨h1, _, h3, h4⟩ := seg_ok (inv_step hl N (Nat.le_refl _)) hl (Nat.le_refl _) (.inl rfl)
  exact ⟨h1, h3, h4⟩
end Go.Proofs.Ytagffnckmlfcnaa.SpanLem
