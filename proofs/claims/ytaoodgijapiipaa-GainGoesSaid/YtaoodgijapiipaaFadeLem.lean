import Derived.Test.YtaoodgijapiipaaNumLem
import Derived.Test.YtaoodgijapiipaaSx9
/-! A fade's gain at a sample, as whole numbers. -/
namespace Go.Proofs.Ytaoodgijapiipaa.FadeLem
open Go.RowKit Go.Proofs.Ytaoodgijapiipaa.S Go.Proofs.YtaoodgijapiipaaW.PrintWords Go.Proofs.YtaoodgijapiipaaW.PrintLast Go.Proofs.YtaoodgijapiipaaW.PrintMore Go.Proofs.Ytaoodgijapiipaa.NumLem
def fadeS (x y n i : Int) : Int := if x < -64 ∨ 32 < x ∨ y < -64 ∨ 32 < y ∨ n < 1 ∨ 70368744177664 < n ∨ i < 0 ∨ n ≤ i then 0 else if n = 1 then x else wrap64 (x + divS (wrap64 (wrap64 (y - x) * i)) (wrap64 (n - 1)))
theorem mayE (g : Int) : gain_may.f g = some (decide (-64 ≤ g ∧ g ≤ 32)) ∧ splicerref25_gain.f g = some (decide (-64 ≤ g ∧ g ≤ 32)) := by
  unfold gain_may.f splicerref25_gain.f
  by_cases h : -64 ≤ g
  · simp [h]
  · simp [h]
theorem w64r (x : Int) : -9223372036854775808 ≤ wrap64 x ∧ wrap64 x ≤ 9223372036854775807 := by unfold wrap64; omega
theorem fadeE (x y n i : Int) (k : Nat) (hk : 5 ≤ k) : gain_Fade.f k x y n i = some (fadeS x y n i) ∧ splicerref25_Fade.f k x y n i = some (fadeS x y n i) := by
  obtain ⟨k, rfl⟩ : ∃ m, k = m + 1 := ⟨k - 1, by omega⟩
  unfold gain_Fade.f splicerref25_Fade.f fadeS
  rw [(mayE x).1, (mayE y).1, (mayE x).2, (mayE y).2]
  simp only [Option.bind_some, gain_Fade.j0, splicerref25_Fade.j0]
  have d := divE (wrap64 (wrap64 (y - x) * i)) (wrap64 (n - 1)) (w64r _).1 (w64r _).2 (w64r _).2 k (by omega)
  rw [d.1, d.2]
  by_cases h1 : -64 ≤ x ∧ x ≤ 32
  · by_cases h2 : -64 ≤ y ∧ y ≤ 32
    · by_cases h3 : n < 1
      · simp [h1, h2, h3]
      · by_cases h4 : n > 70368744177664
        · simp [h1, h2, h3, h4]
        · by_cases h5 : i < 0
          · simp [h1, h2, h3, h4, h5]
          · by_cases h6 : i ≥ n
            · simp [h1, h2, h3, h4, h5, h6]
            · rw [if_neg (c := x < -64 ∨ _) (by omega)]
              have hd : decide (i ≥ n) = false := decide_eq_false h6
              by_cases h7 : n = 1
              · subst h7; simp [h1, h2, h5, hd]
              · simp [h1, h2, h3, h4, h5, h6, h7]
    · simp [h1, h2]; intros; omega
  · simp [h1]; intros; omega
theorem div_mono (a a' b : Int) (hb : 1 ≤ b) (h : a ≤ a') : a / b + (if b ≤ 2 * (a % b) then 1 else 0) ≤ a' / b + (if b ≤ 2 * (a' % b) then 1 else 0) := by
  have e := Int.mul_ediv_add_emod a b
  have e' := Int.mul_ediv_add_emod a' b
  have m1 := Int.emod_lt_of_pos a (show 0 < b by omega)
  have m0 := Int.emod_nonneg a' (show b ≠ 0 by omega)
  have hq := Int.ediv_le_ediv (show 0 < b by omega) h
  generalize a / b = q at *
  generalize a' / b = q' at *
  generalize a % b = r at *
  generalize a' % b = r' at *
  by_cases hqq : q = q'
  · subst hqq
    have : r ≤ r' := by omega
    split <;> split <;> omega
  · split <;> split <;> omega
theorem div_exact (d b : Int) (hb : 1 ≤ b) : (d * b) / b + (if b ≤ 2 * ((d * b) % b) then 1 else 0) = d := by
  rw [Int.mul_ediv_cancel _ (by omega), Int.mul_emod_left, if_neg (by omega)]; omega
/-- What a fade is, where it is one. -/
theorem fade_is (x y n i : Int) (hx : -64 ≤ x) (hx' : x ≤ 32) (hy : -64 ≤ y) (hy' : y ≤ 32) (hn : 2 ≤ n) (hn' : n ≤ 70368744177664) (hi : 0 ≤ i) (hi' : i < n) :
    fadeS x y n i = x + (((y - x) * i) / (n - 1) + (if n - 1 ≤ 2 * (((y - x) * i) % (n - 1)) then 1 else 0)) ∧
    (x ≤ y → x ≤ fadeS x y n i ∧ fadeS x y n i ≤ y) ∧ (y ≤ x → y ≤ fadeS x y n i ∧ fadeS x y n i ≤ x) := by
  have hb1 : -6755399441055744 ≤ (y - x) * i := by
    have h1 : -96 * i ≤ (y - x) * i := Int.mul_le_mul_of_nonneg_right (by omega) hi
    omega
  have hb2 : (y - x) * i ≤ 6755399441055744 := by
    have h1 : (y - x) * i ≤ 96 * i := Int.mul_le_mul_of_nonneg_right (by omega) hi
    omega
  have hdiv : ∀ a : Int, -6755399441055744 ≤ a → a ≤ 6755399441055744 → divS a (n - 1) = a / (n - 1) + (if n - 1 ≤ 2 * (a % (n - 1)) then 1 else 0) := by
    intro a h1 h2
    unfold divS
    rw [if_neg (by omega)]
  have lo : x ≤ y → 0 ≤ ((y - x) * i) / (n - 1) + (if n - 1 ≤ 2 * (((y - x) * i) % (n - 1)) then 1 else 0) ∧ ((y - x) * i) / (n - 1) + (if n - 1 ≤ 2 * (((y - x) * i) % (n - 1)) then 1 else 0) ≤ y - x := by
    intro h
    have h0 : 0 ≤ (y - x) * i := Int.mul_nonneg (by omega) hi
    have h1 : (y - x) * i ≤ (y - x) * (n - 1) := Int.mul_le_mul_of_nonneg_left (by omega) (by omega)
    have m0 := div_mono 0 _ (n - 1) (by omega) h0
    have m1 := div_mono _ _ (n - 1) (by omega) h1
    rw [div_exact _ _ (by omega)] at m1
    rw [Int.zero_ediv, Int.zero_emod, if_neg (show ¬ n - 1 ≤ 2 * 0 by omega)] at m0
    exact ⟨by omega, m1⟩
  have hi2 : y ≤ x → y - x ≤ ((y - x) * i) / (n - 1) + (if n - 1 ≤ 2 * (((y - x) * i) % (n - 1)) then 1 else 0) ∧ ((y - x) * i) / (n - 1) + (if n - 1 ≤ 2 * (((y - x) * i) % (n - 1)) then 1 else 0) ≤ 0 := by
    intro h
    have h0 : (y - x) * i ≤ 0 := Int.mul_nonpos_of_nonpos_of_nonneg (by omega) hi
    have h1 : (y - x) * (n - 1) ≤ (y - x) * i := Int.mul_le_mul_of_nonpos_left (by omega) (by omega)
    have m0 := div_mono _ 0 (n - 1) (by omega) h0
    have m1 := div_mono _ _ (n - 1) (by omega) h1
    rw [div_exact _ _ (by omega)] at m1
    rw [Int.zero_ediv, Int.zero_emod, if_neg (show ¬ n - 1 ≤ 2 * 0 by omega)] at m0
    exact ⟨m1, by omega⟩
  have main : fadeS x y n i = x + (((y - x) * i) / (n - 1) + (if n - 1 ≤ 2 * (((y - x) * i) % (n - 1)) then 1 else 0)) := by
    unfold fadeS
    rw [if_neg (by omega), if_neg (by omega), w64 (x := y - x) (by omega) (by omega), w64 (x := (y - x) * i) (by omega) (by omega), w64 (x := n - 1) (by omega) (by omega), hdiv _ hb1 hb2]
    generalize ((y - x) * i) / (n - 1) + (if n - 1 ≤ 2 * (((y - x) * i) % (n - 1)) then 1 else 0) = v at *
    rcases Int.le_total x y with h | h
    · have := lo h; exact w64 (by omega) (by omega)
    · have := hi2 h; exact w64 (by omega) (by omega)
  rw [main]
  refine ⟨rfl, fun h => ?_, fun h => ?_⟩
  · have := lo h; omega
  · have := hi2 h; omega
theorem fade_mono (x y n i k : Int) (hx : -64 ≤ x) (hx' : x ≤ 32) (hy : -64 ≤ y) (hy' : y ≤ 32) (hn : 2 ≤ n) (hn' : n ≤ 70368744177664) (hi : 0 ≤ i) (hik : i ≤ k) (hk : k < n) :
    (x ≤ y → fadeS x y n i ≤ fadeS x y n k) ∧ (y ≤ x → fadeS x y n k ≤ fadeS x y n i) := by
  rw [(fade_is x y n i hx hx' hy hy' hn hn' hi (by omega)).1, (fade_is x y n k hx hx' hy hy' hn hn' (by omega) hk).1]
  refine ⟨fun h => ?_, fun h => ?_⟩
  · have := div_mono _ _ (n - 1) (by omega) (show (y - x) * i ≤ (y - x) * k from Int.mul_le_mul_of_nonneg_left hik (by omega))
    omega
  · have := div_mono _ _ (n - 1) (by omega) (show (y - x) * k ≤ (y - x) * i from Int.mul_le_mul_of_nonpos_left (by omega) hik)
    omega
theorem fade_ends (x y n : Int) (hx : -64 ≤ x) (hx' : x ≤ 32) (hy : -64 ≤ y) (hy' : y ≤ 32) (hn : 2 ≤ n) (hn' : n ≤ 70368744177664) : fadeS x y n 0 = x ∧ fadeS x y n (n - 1) = y := by
  rw [(fade_is x y n 0 hx hx' hy hy' hn hn' (by omega) (by omega)).1, (fade_is x y n (n - 1) hx hx' hy hy' hn hn' (by omega) (by omega)).1, div_exact _ _ (by omega), Int.mul_zero, Int.zero_ediv, Int.zero_emod, if_neg (by omega)]
  omega
end Go.Proofs.Ytaoodgijapiipaa.FadeLem
