/- LevelSteps: for any steps, who is louder by a step is not quieter, by four steps it is twice as loud, but for one; for numbers from 2 to 2^40, what is found is not louder than what was asked for, and the next step is; no condition beyond the statement's own guards. -/
import Derived.Test.YtkidbmhmjoogiaaSx7
import Derived.Test.YtkidbmhmjoogiaaLevelLem
namespace Go.Proofs.Ytkidbmhmjoogiaa.Pure
open Go.RowKit Go.Proofs.Ytkidbmhmjoogiaa.S Go.Proofs.YtkidbmhmjoogiaaW.PrintWords Go.Proofs.YtkidbmhmjoogiaaW.PrintLast Go.Proofs.Ytkidbmhmjoogiaa.NumLem
open LevelLem (ampS gainS T Is res ampE gainE)

theorem steps_T : ∀ i : Nat, i < 92 → 2 ≤ T (i + 4) ∧ T (i + 4) ≤ 33554432 ∧ (i < 91 → T (i + 4) ≤ T (i + 5)) ∧ (i < 88 → -1 ≤ T (i + 8) - 2 * T (i + 4) ∧ T (i + 8) - 2 * T (i + 4) ≤ 1) := by decide +kernel
theorem steps_G : ∀ j : Nat, j < 93 → -1 ≤ gainS ((j : Int) - 60) - 2 * gainS ((j : Int) - 64) ∧ gainS ((j : Int) - 60) - 2 * gainS ((j : Int) - 64) ≤ 1 ∧ gainS ((j : Int) - 64) ≤ gainS ((j : Int) - 63) ∧ 1 ≤ gainS ((j : Int) - 64) ∧ gainS ((j : Int) - 60) ≤ 33554432 ∧ gainS ((j : Int) - 64) ≤ 33554432 := by decide +kernel

theorem amp_T (c f : Int) (n : Nat) (h : c = ((n / 4 : Nat) : Int)) (h' : f = ((n % 4 : Nat) : Int)) : ampS c f = T n := by subst h h'; rfl

theorem last (a : Int) (k : Nat) (hk : 200 ≤ k) : splicerlaw08_LevelSteps.j3 k a false = some true ∨ a < 2 := by
  by_cases h2 : a < 2
  · exact .inr h2
  left
  obtain ⟨k, rfl⟩ : ∃ m, k = m + 1 := ⟨k - 1, by omega⟩
  simp only [splicerlaw08_LevelSteps.j3]
  obtain ⟨n, e, i3, i95, ile, igt⟩ := LevelLem.findE a k (by omega)
  have n3 : n ≠ 3 := by
    intro h
    have := igt 4 (by omega) (by omega)
    have t4 : T 4 = 2 := by decide +kernel
    omega
  have hle : T n ≤ a := by rcases ile with h | h; exact absurd h n3; exact h
  rw [e, if_neg (by decide)]
  unfold res
  simp only [Option.bind_some, if_neg (show ¬ n < 4 by omega), if_neg (show ¬ ((n / 4 : Nat) : Int) < 1 by omega), ampE, amp_T _ _ n rfl rfl, decide_eq_false (show ¬ T n > a by omega)]
  obtain ⟨k, rfl⟩ : ∃ m, k = m + 1 := ⟨k - 1, by omega⟩
  simp only [splicerlaw08_LevelSteps.j4, if_neg (show ¬ (false = true) by decide), LevelLem.awakeE k (by omega), Option.bind_some]
  have e1 : wrap64 (wrap64 (wrap64 (4 * ((n / 4 : Nat) : Int)) + ((n % 4 : Nat) : Int)) + 1) = ((n + 1 : Nat) : Int) := by
    rw [w64 (x := 4 * ((n / 4 : Nat) : Int)) (by omega) (by omega), w64 (x := 4 * ((n / 4 : Nat) : Int) + ((n % 4 : Nat) : Int)) (by omega) (by omega), w64 (by omega) (by omega)]; omega
  rw [e1]
  by_cases h : ((n + 1 : Nat) : Int) ≥ 96
  · rw [if_pos h]
  · have e2 : wrap64 (((n + 1 : Nat) : Int).tdiv 4) = (((n + 1) / 4 : Nat) : Int) := by
      rw [Int.tdiv_eq_ediv_of_nonneg (by omega), w64 (by omega) (by omega)]; omega
    have e3 : ((n + 1 : Nat) : Int).tmod 4 = (((n + 1) % 4 : Nat) : Int) := by rw [Int.tmod_eq_emod_of_nonneg (by omega)]; omega
    rw [if_neg h, e2, e3, ampE, amp_T _ _ (n + 1) rfl rfl]
    have := igt (n + 1) (by omega) (by omega)
    simp only [Option.bind_some, if_pos (show T (n + 1) > a by omega)]

theorem behind (b a : Int) (hb : 0 ≤ b ∧ b ≤ 255) (k : Nat) (hk : 300 ≤ k) : splicerlaw08_LevelSteps.j1 k b a = some true := by
  obtain ⟨k, rfl⟩ : ∃ m, k = m + 1 := ⟨k - 1, by omega⟩
  simp only [splicerlaw08_LevelSteps.j1]
  rw [w64 (x := b) (by omega) (by omega), Int.tmod_eq_emod_of_nonneg (by omega)]
  obtain ⟨j, hj, e⟩ : ∃ j : Nat, j < 93 ∧ b % 93 = (j : Int) := ⟨(b % 93).toNat, by omega, by omega⟩
  obtain ⟨s1, s2, s3, s4, s5, s6⟩ := steps_G j hj
  rw [e, w64 (x := (j : Int) - 64) (by omega) (by omega), w64 (x := (j : Int) - 64 + 4) (by omega) (by omega), w64 (x := (j : Int) - 64 + 1) (by omega) (by omega),
    show (j : Int) - 64 + 4 = (j : Int) - 60 by omega, show (j : Int) - 64 + 1 = (j : Int) - 63 by omega]
  simp only [gainE, Option.bind_some]
  rw [w64 (x := 2 * gainS ((j : Int) - 64)) (by omega) (by omega), w64 (by omega) (by omega)]
  simp only [if_neg (show ¬ gainS ((j : Int) - 60) - 2 * gainS ((j : Int) - 64) > 1 by omega), if_neg (show ¬ gainS ((j : Int) - 60) - 2 * gainS ((j : Int) - 64) < -1 by omega),
    if_neg (show ¬ gainS ((j : Int) - 63) < gainS ((j : Int) - 64) by omega), decide_eq_false (show ¬ gainS ((j : Int) - 64) < 1 by omega)]
  obtain ⟨k, rfl⟩ : ∃ m, k = m + 1 := ⟨k - 1, by omega⟩
  simp only [splicerlaw08_LevelSteps.j2, if_neg (show ¬ (false = true) by decide)]
  have out : splicerlaw08_LevelSteps.j3 k a true = some true := by
    obtain ⟨k, rfl⟩ : ∃ m, k = m + 1 := ⟨k - 1, by omega⟩
    simp only [splicerlaw08_LevelSteps.j3]; rw [LevelLem.awakeE k (by omega)]; rfl
  by_cases h : a < 2
  · rw [if_pos h]; exact out
  rw [if_neg h]
  by_cases h' : a > 1099511627776
  · rw [decide_eq_true h']; exact out
  · rw [decide_eq_false h']
    rcases last a k (by omega) with h1 | h1
    · exact h1
    · exact absurd h1 h

theorem LevelSteps : splicerlaw08_LevelSteps.Pure := by
  intro b a hb _
  have b1 := bounds_u8 hb
  refine ⟨302, ?_⟩
  unfold splicerlaw08_LevelSteps.f
  rw [w64 (x := b) (by omega) (by omega)]
  obtain ⟨i, hi, e⟩ : ∃ i : Nat, i < 92 ∧ b.tmod 92 = (i : Int) := ⟨(b % 92).toNat, by omega, by rw [Int.tmod_eq_emod_of_nonneg (by omega)]; omega⟩
  have e4 : b.tmod 4 = (((i + 4) % 4 : Nat) : Int) := by
    rw [Int.tmod_eq_emod_of_nonneg (by omega)] at e ⊢; omega
  have ec : wrap64 (wrap64 ((i : Int).tdiv 4) + 1) = (((i + 4) / 4 : Nat) : Int) := by
    rw [Int.tdiv_eq_ediv_of_nonneg (by omega), w64 (x := (i : Int) / 4) (by omega) (by omega), w64 (by omega) (by omega)]; omega
  have ec' : wrap64 (wrap64 (((i : Int) + 1).tdiv 4) + 1) = (((i + 5) / 4 : Nat) : Int) := by
    rw [Int.tdiv_eq_ediv_of_nonneg (by omega), w64 (x := ((i : Int) + 1) / 4) (by omega) (by omega), w64 (by omega) (by omega)]; omega
  have e4' : ((i : Int) + 1).tmod 4 = (((i + 5) % 4 : Nat) : Int) := by rw [Int.tmod_eq_emod_of_nonneg (by omega)]; omega
  rw [e, e4, ec, w64 (x := (i : Int) + 1) (by omega) (by omega), ec', e4']
  obtain ⟨s1, s2, s3, s4⟩ := steps_T i hi
  have on : splicerlaw08_LevelSteps.j0 302 b a (((i + 4) / 4 : Nat) : Int) (((i + 4) % 4 : Nat) : Int) (T (i + 4)) false = some true := by
    simp only [splicerlaw08_LevelSteps.j0, if_neg (show ¬ (false = true) by decide), behind b a b1 301 (by decide)]
    by_cases h : (((i + 4) / 4 : Nat) : Int) < 23
    · rw [if_pos h, w64 (x := (((i + 4) / 4 : Nat) : Int) + 1) (by omega) (by omega), ampE, amp_T _ _ (i + 8) (by omega) (by omega)]
      have := s4 (by omega)
      rw [Option.bind_some, w64 (x := 2 * T (i + 4)) (by omega) (by omega), w64 (by omega) (by omega), if_neg (by omega), if_neg (by omega)]
    · rw [if_neg h]
  simp only [ampE, amp_T _ _ (i + 4) rfl rfl, amp_T _ _ (i + 5) rfl rfl, Option.bind_some, if_neg (show ¬ T (i + 4) < 2 by omega)]
  by_cases h : (i : Int) < 91
  · rw [if_pos h, decide_eq_false (show ¬ T (i + 5) < T (i + 4) by have := s3 (by omega); omega)]; exact on
  · rw [if_neg h]; exact on

end Go.Proofs.Ytkidbmhmjoogiaa.Pure
