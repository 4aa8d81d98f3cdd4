/- LevelStays: of samples from -32768 to 32767 and any gain, a sample stays within a sample's bounds and keeps its side of 0, at gain 0 it is as it was, and 0 stays 0; no condition beyond the statement's own guards. -/
import Derived.Test.YtkidbmhmjoogiaaSx8
import Derived.Test.YtkidbmhmjoogiaaLevelLem
namespace Go.Proofs.Ytkidbmhmjoogiaa.Pure
open Go.RowKit Go.Proofs.Ytkidbmhmjoogiaa.S Go.Proofs.YtkidbmhmjoogiaaW.PrintWords Go.Proofs.YtkidbmhmjoogiaaW.PrintLast Go.Proofs.Ytkidbmhmjoogiaa.NumLem
open LevelLem (applyS satS gainS)

theorem gain_b (g : Int) : 0 ≤ gainS g ∧ gainS g ≤ 33554432 := by
  have h : ∀ n : Nat, n < 97 → 0 ≤ gainS ((n : Int) - 64) ∧ gainS ((n : Int) - 64) ≤ 33554432 := by decide +kernel
  by_cases c : g < -64 ∨ 32 < g
  · unfold gainS; rw [if_pos c]; decide
  · have := h (g + 64).toNat (by omega)
    rwa [show (((g + 64).toNat : Nat) : Int) - 64 = g by omega] at this

theorem shr16 (v : Int) (h : -2305843009213693952 ≤ v) (h' : v ≤ 2305843009213693952) : shrS v 16 = v / 65536 + (if 65536 ≤ 2 * (v % 65536) then 1 else 0) := by
  unfold shrS
  rw [if_neg (show ¬ ((16 : Int) < 0 ∨ 60 < (16 : Int) ∨ v < -2305843009213693952 ∨ 2305843009213693952 < v) by omega)]
  rfl

theorem prod_b (x g : Int) (h1 : -32768 ≤ x) (h2 : x ≤ 32767) (g0 : 0 ≤ g) (g1 : g ≤ 33554432) :
    -1099511627776 ≤ x * g ∧ x * g ≤ 1099511627776 ∧ (0 ≤ x → 0 ≤ x * g) ∧ (x ≤ 0 → x * g ≤ 0) := by
  have a1 := Int.mul_le_mul_of_nonneg_right h2 g0
  have a2 := Int.mul_le_mul_of_nonneg_right h1 g0
  refine ⟨by omega, by omega, fun h => Int.mul_nonneg h g0, fun h => Int.mul_nonpos_of_nonpos_of_nonneg h g0⟩

theorem apply_is (x g : Int) (h1 : -32768 ≤ x) (h2 : x ≤ 32767) : -32768 ≤ applyS x g ∧ applyS x g ≤ 32767 ∧ (0 ≤ x → 0 ≤ applyS x g) ∧ (x ≤ 0 → applyS x g ≤ 0) := by
  have gb := gain_b g
  have pb := prod_b x (gainS g) h1 h2 gb.1 gb.2
  unfold applyS satS
  rw [if_neg (show ¬ (x < -1073741824 ∨ 1073741824 < x) by omega), w64 (by omega) (by omega), shr16 _ (by omega) (by omega)]
  generalize x * gainS g = v at *
  repeat' split
  all_goals omega

theorem apply_zero (x : Int) (h1 : -32768 ≤ x) (h2 : x ≤ 32767) : applyS x 0 = x := by
  have g0 : gainS 0 = 65536 := by decide +kernel
  unfold applyS satS
  rw [g0, if_neg (show ¬ (x < -1073741824 ∨ 1073741824 < x) by omega), w64 (by omega) (by omega), shr16 _ (by omega) (by omega)]
  repeat' split
  all_goals omega

theorem LevelStays : splicerlaw08_LevelStays.Pure := by
  intro x g _ _
  refine ⟨202, ?_⟩
  have aw := LevelLem.awakeE 201 (by decide)
  have aw' := LevelLem.awakeE 200 (by decide)
  have out : splicerlaw08_LevelStays.j0 202 x g true = some true := by
    simp only [splicerlaw08_LevelStays.j0]; rw [aw]; rfl
  unfold splicerlaw08_LevelStays.f
  by_cases h1 : x < -32768
  · rw [if_pos h1]; exact out
  by_cases h2 : x > 32767
  · rw [if_neg h1, decide_eq_true h2]; exact out
  rw [if_neg h1, decide_eq_false h2]
  clear out aw
  have ai := apply_is x g (by omega) (by omega)
  have on : splicerlaw08_LevelStays.j1 201 x g false = some true := by
    simp only [splicerlaw08_LevelStays.j1]
    have a0 := apply_is 0 g (by omega) (by omega)
    have z : applyS 0 g = 0 := by have := a0.2.2.1 (by omega); have := a0.2.2.2 (by omega); omega
    rw [(LevelLem.applyE x 0 200 (by decide)).1, (LevelLem.applyE 0 g 200 (by decide)).1, apply_zero x (by omega) (by omega), z, aw']
    simp
  simp only [splicerlaw08_LevelStays.j0]
  rw [if_neg (by decide), (LevelLem.applyE x g 201 (by decide)).1]
  simp only [Option.bind_some, if_neg (show ¬ applyS x g < -32768 by omega), if_neg (show ¬ applyS x g > 32767 by omega)]
  by_cases h3 : x > 0
  · rw [if_pos h3, if_neg (show ¬ applyS x g < 0 by omega), if_neg (show ¬ x < 0 by omega)]; exact on
  · rw [if_neg h3]
    by_cases h4 : x < 0
    · rw [if_pos h4, decide_eq_false (show ¬ applyS x g > 0 by omega)]; exact on
    · rw [if_neg h4]; exact on

end Go.Proofs.Ytkidbmhmjoogiaa.Pure
