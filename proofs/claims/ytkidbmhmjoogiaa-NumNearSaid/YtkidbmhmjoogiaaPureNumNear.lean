/- NumNear: of numbers from -2^60 to 2^60 and divisors from 1 to 2^60, what is divided is off by half of the divisor at most, upwards at a half, and what is left, and what was divided, make the number again; no condition beyond the statement's own guards. -/
import Derived.Test.YtkidbmhmjoogiaaSx3
import Derived.Test.YtkidbmhmjoogiaaNumLem
namespace Go.Proofs.Ytkidbmhmjoogiaa.Pure
open Go.RowKit Go.Proofs.Ytkidbmhmjoogiaa.S Go.Proofs.YtkidbmhmjoogiaaW.PrintWords Go.Proofs.YtkidbmhmjoogiaaW.PrintLast Go.Proofs.Ytkidbmhmjoogiaa.NumLem

theorem NumNear_out (a b : Int) : splicerlaw01_NumNear.j0 9 a b true = some true := by
  simp only [splicerlaw01_NumNear.j0]
  rw [awakeE 8 (by decide)]; rfl

theorem NumNear : splicerlaw01_NumNear.Pure := by
  intro a b ha hb
  have a1 := bounds_i64 ha
  have b1 := bounds_i64 hb
  refine ⟨9, ?_⟩
  unfold splicerlaw01_NumNear.f
  by_cases h1 : a < -1152921504606846976
  · rw [if_pos h1]; exact NumNear_out a b
  rw [if_neg h1]
  by_cases h2 : a > 1152921504606846976
  · rw [if_pos h2]; exact NumNear_out a b
  rw [if_neg h2]
  by_cases h3 : b < 1
  · rw [if_pos h3]; exact NumNear_out a b
  rw [if_neg h3]
  by_cases h4 : b > 1152921504606846976
  · rw [decide_eq_true h4]; exact NumNear_out a b
  rw [decide_eq_false h4]
  obtain ⟨m1, _⟩ := modE a b a1.1 a1.2 b1.2
  obtain ⟨d1, _⟩ := divE a b a1.1 a1.2 b1.2 8 (by decide)
  obtain ⟨q0, q1, m0, m2⟩ := quo_bounds a b (by omega) a1.1 a1.2
  have e := Int.mul_ediv_add_emod a b
  simp only [splicerlaw01_NumNear.j0]
  rw [m1, d1, awakeE 8 (by decide), if_neg h3]
  unfold divS
  rw [if_neg (show ¬ (b < 1 ∨ a < -1152921504606846976 ∨ 1152921504606846976 < a ∨ 1152921504606846976 < b) by omega)]
  simp only [Option.bind_some, if_neg (show ¬ (false = true) by decide), if_neg (show ¬ a % b < 0 by omega), if_neg (show ¬ a % b ≥ b by omega)]
  generalize a / b = q at *
  generalize a % b = r at *
  have e1 : q * b = a - r := by rw [Int.mul_comm]; omega
  rw [w64 (x := q * b) (by omega) (by omega), w64 (x := q * b + r) (by omega) (by omega), if_pos (by omega)]
  by_cases h : b ≤ 2 * r
  · rw [if_pos h]
    have e2 : (q + 1) * b = a - r + b := by rw [Int.add_mul]; omega
    rw [w64 (x := (q + 1) * b) (by omega) (by omega), w64 (x := (q + 1) * b - a) (by omega) (by omega), w64 (x := 2 * ((q + 1) * b - a)) (by omega) (by omega), w64 (x := -2 * ((q + 1) * b - a)) (by omega) (by omega), if_pos (by omega), if_pos (by omega)]
  · rw [if_neg h, Int.add_zero]
    rw [w64 (x := q * b) (by omega) (by omega), w64 (x := q * b - a) (by omega) (by omega), w64 (x := 2 * (q * b - a)) (by omega) (by omega), w64 (x := -2 * (q * b - a)) (by omega) (by omega), if_pos (by omega), if_pos (by omega)]

end Go.Proofs.Ytkidbmhmjoogiaa.Pure
