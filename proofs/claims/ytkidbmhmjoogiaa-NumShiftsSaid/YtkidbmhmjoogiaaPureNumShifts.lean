/- NumShifts: of numbers from -2^60 to 2^60 and shifts from 0 to 59, what is shifted is divided by that power of two, by 0 it stays, and what is held stays so; no condition beyond the statement's own guards. -/
import Derived.Test.YtkidbmhmjoogiaaSx4
import Derived.Test.YtkidbmhmjoogiaaNumLem
namespace Go.Proofs.Ytkidbmhmjoogiaa.Pure
open Go.RowKit Go.Proofs.Ytkidbmhmjoogiaa.S Go.Proofs.YtkidbmhmjoogiaaW.PrintWords Go.Proofs.YtkidbmhmjoogiaaW.PrintLast Go.Proofs.YtkidbmhmjoogiaaW.PrintMore Go.Proofs.Ytkidbmhmjoogiaa.NumLem

theorem NumShifts_out (a b : Int) : splicerlaw01_NumShifts.j0 9 a b true = some true := by
  simp only [splicerlaw01_NumShifts.j0]
  rw [awakeE 8 (by decide)]; rfl

theorem shr_div (x : Int) (n : Nat) (h : n ≤ 59) (h1 : ¬ x < -1152921504606846976) (h2 : ¬ x > 1152921504606846976) : shrS x n = divS x (2 ^ n) := by
  have hp := pow_le n (by omega)
  unfold shrS divS
  rw [if_neg (show ¬ ((n : Int) < 0 ∨ 60 < (n : Int) ∨ x < -2305843009213693952 ∨ 2305843009213693952 < x) by omega),
    if_neg (show ¬ ((2 : Int) ^ n < 1 ∨ x < -1152921504606846976 ∨ 1152921504606846976 < x ∨ 1152921504606846976 < (2 : Int) ^ n) by omega)]
  rfl

theorem NumShifts : splicerlaw01_NumShifts.Pure := by
  intro a b ha hb
  have a1 := bounds_i64 ha
  have b1 := bounds_u8 hb
  refine ⟨9, ?_⟩
  unfold splicerlaw01_NumShifts.f
  by_cases h1 : a < -1152921504606846976
  · rw [if_pos h1]; exact NumShifts_out a b
  rw [if_neg h1]
  by_cases h2 : a > 1152921504606846976
  · rw [decide_eq_true h2]; exact NumShifts_out a b
  rw [decide_eq_false h2]
  simp only [splicerlaw01_NumShifts.j0]
  rw [w64 (x := b) (by omega) (by omega)]
  obtain ⟨n, hn, e⟩ : ∃ n : Nat, n ≤ 59 ∧ b.tmod 60 = n := ⟨(b % 60).toNat, by omega, by rw [Int.tmod_eq_emod_of_nonneg (by omega)]; omega⟩
  rw [e]
  have hp := pow_le n (by omega)
  rw [(satE a).1, (shrE a n (by omega) (by omega) (by omega) (by omega) 8 (by decide)).1, shl1 n (by omega),
    (divE a (2 ^ n) (by omega) (by omega) (by omega) 8 (by decide)).1, (shrE a 0 (by omega) (by omega) (by omega) (by omega) 8 (by decide)).1,
    (absE a 8 (by decide)).1, w64 (x := -a) (by omega) (by omega), (absE (-a) 8 (by decide)).1, awakeE 8 (by decide)]
  have s0 : shrS a 0 = a := by
    unfold shrS
    rw [if_neg (show ¬ ((0 : Int) < 0 ∨ 60 < (0 : Int) ∨ a < -2305843009213693952 ∨ 2305843009213693952 < a) by omega)]
    simp
  have ab : absS a = absS (-a) := by
    unfold absS; repeat' split
    all_goals omega
  have a0 : absS a ≥ 0 := by
    unfold absS; repeat' split
    all_goals omega
  have hb' : ∀ s : Int, s = (if a < -32768 then -32768 else if 32767 < a then 32767 else a) → -32768 ≤ s ∧ s ≤ 32767 := by
    intro s h; subst h; repeat' split
    all_goals omega
  obtain ⟨s, hs⟩ : ∃ s, s = (if a < -32768 then -32768 else if 32767 < a then 32767 else a) := ⟨_, rfl⟩
  have hs' := hb' s hs
  rw [← hs]
  simp only [Option.bind_some, if_neg (show ¬ (false = true) by decide), if_pos (show (0 : Int) ≤ n by omega)]
  rw [shr_div a n hn h1 h2, s0, if_pos rfl, if_pos rfl, (satE s).1, ← ab]
  simp only [Option.bind_some, if_neg (show ¬ s < -32768 by omega), if_neg (show ¬ 32767 < s by omega), if_pos (show s ≥ -32768 by omega), if_pos (show s ≤ 32767 by omega), if_true, if_pos a0]

end Go.Proofs.Ytkidbmhmjoogiaa.Pure
