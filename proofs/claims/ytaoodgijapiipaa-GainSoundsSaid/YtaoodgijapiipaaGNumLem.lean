import Derived.Test.YtaoodgijapiipaaGx7
import Derived.OpenShut
/-! What the functions of num and of its reference come to, as whole numbers: no Go, no memory. -/
namespace Go.Proofs.Ytaoodgijapiipaa.NumLem
open Go.RowKit Go.Proofs.Ytaoodgijapiipaa.S Go.Proofs.YtaoodgijapiipaaW.PrintWords Go.Proofs.YtaoodgijapiipaaW.PrintLast Go.Proofs.YtaoodgijapiipaaW.PrintMore

theorem w64 {x : Int} (h : -9223372036854775808 ≤ x) (h' : x ≤ 9223372036854775807) : wrap64 x = x := by
  unfold wrap64; omega

theorem within1 (M a : Int) (hM : 0 ≤ M) (hM' : M ≤ 9223372036854775807) (k : Nat) (hk : 2 ≤ k) :
    num_within.f k M [a] = some (decide (-M ≤ a ∧ a ≤ M)) := by
  obtain ⟨k, rfl⟩ : ∃ m, k = m + 2 := ⟨k - 2, by omega⟩
  unfold num_within.f
  simp only [num_within.l0, List.length_cons, List.length_nil]
  rw [w64 (x := -M) (by omega) (by omega)]
  have r0 : rd [a] 0 = a := rfl
  rw [r0]
  by_cases h1 : a < -M
  · simp [h1]; omega
  · by_cases h2 : a > M
    · simp [h1, h2]
    · have e1 : wrap64 (0 + 1) = 1 := w64 (x := 0 + 1) (by omega) (by omega)
      rw [e1]; simp [h1, h2]; omega

theorem within2 (M a b : Int) (hM : 0 ≤ M) (hM' : M ≤ 9223372036854775807) (k : Nat) (hk : 3 ≤ k) :
    num_within.f k M [a, b] = some (decide ((-M ≤ a ∧ a ≤ M) ∧ -M ≤ b ∧ b ≤ M)) := by
  obtain ⟨k, rfl⟩ : ∃ m, k = m + 3 := ⟨k - 3, by omega⟩
  unfold num_within.f
  simp only [num_within.l0, List.length_cons, List.length_nil]
  rw [w64 (x := -M) (by omega) (by omega)]
  have r0 : rd [a, b] 0 = a := rfl
  have r1 : rd [a, b] 1 = b := rfl
  have e1 : wrap64 (0 + 1) = 1 := w64 (x := 0 + 1) (by omega) (by omega)
  have e2 : wrap64 (1 + 1) = 2 := w64 (x := 1 + 1) (by omega) (by omega)
  rw [r0, e1, r1, e2]
  by_cases h1 : a < -M
  · simp [h1]; omega
  · by_cases h2 : a > M
    · simp [h1, h2]; omega
    · by_cases h3 : b < -M
      · simp [h1, h2, h3]; omega
      · by_cases h4 : b > M
        · simp [h1, h2, h3, h4]
        · simp [h1, h2, h3, h4]; omega

/-- Go's division of a number that is not below 0, and of one that is. -/
theorem trunc_facts (a b : Int) (hb : 1 ≤ b) :
    (0 ≤ a → a.tdiv b = a / b ∧ a.tmod b = a % b) ∧
    (a < 0 → (a % b = 0 → a.tmod b = 0 ∧ a.tdiv b = a / b) ∧ (a % b ≠ 0 → a.tmod b = a % b - b ∧ a.tdiv b = a / b + 1)) := by
  refine ⟨fun h => ⟨Int.tdiv_eq_ediv_of_nonneg h, Int.tmod_eq_emod_of_nonneg h⟩, fun h => ?_⟩
  have hdvd : b ∣ a ↔ a % b = 0 := Int.dvd_iff_emod_eq_zero
  have hs : b.sign = 1 := Int.sign_eq_one_of_pos (by omega)
  have hn : (b.natAbs : Int) = b := by omega
  constructor
  · intro h0
    have hd := hdvd.2 h0
    constructor
    · rw [Int.tmod_eq_emod, if_pos (.inr hd)]; omega
    · rw [Int.tdiv_eq_ediv, if_pos (.inr hd)]; omega
  · intro h0
    have hd : ¬ b ∣ a := fun h' => h0 (hdvd.1 h')
    constructor
    · rw [Int.tmod_eq_emod, if_neg (by intro h'; rcases h' with h' | h'; omega; exact hd h')]; omega
    · rw [Int.tdiv_eq_ediv, if_neg (by intro h'; rcases h' with h' | h'; omega; exact hd h'), hs]

theorem quo_bounds (a b : Int) (hb : 1 ≤ b) (h0 : -9223372036854775808 ≤ a) (h1 : a ≤ 9223372036854775807) :
    -9223372036854775808 ≤ a / b ∧ a / b ≤ 9223372036854775807 ∧ 0 ≤ a % b ∧ a % b < b := by
  have e := Int.mul_ediv_add_emod a b
  have m0 := Int.emod_nonneg a (show b ≠ 0 by omega)
  have m1 := Int.emod_lt_of_pos a (show 0 < b by omega)
  refine ⟨?_, ?_, m0, m1⟩
  · rw [Int.le_ediv_iff_mul_le (by omega)]
    have := Int.mul_le_mul_of_nonpos_left (a := -9223372036854775808) (b := b) (c := 1) (by decide) hb
    omega
  · by_cases h : 0 ≤ a
    · have := Int.ediv_le_self b h; omega
    · have := Int.ediv_neg_of_neg_of_pos (a := a) (b := b) (by omega) (by omega); omega

/-- Rounded down, and what is left. -/
theorem modE (a b : Int) (h0 : -9223372036854775808 ≤ a) (h1 : a ≤ 9223372036854775807) (hb' : b ≤ 9223372036854775807) :
    num_Mod.f a b = some (if b < 1 then (0, 0) else (a / b, a % b)) ∧ splicerref01_Mod.f a b = some (if b < 1 then (0, 0) else (a / b, a % b)) := by
  unfold num_Mod.f splicerref01_Mod.f
  by_cases hb : b < 1
  · simp [hb]
  · obtain ⟨q0, q1, m0, m1⟩ := quo_bounds a b (by omega) h0 h1
    obtain ⟨tp, tn⟩ := trunc_facts a b (by omega)
    simp only [if_neg hb, if_neg (show ¬ b = 0 by omega)]
    by_cases ha : 0 ≤ a
    · obtain ⟨t1, t2⟩ := tp ha
      simp only [t1, t2, if_neg (show ¬ a % b < 0 by omega), if_neg (show ¬ a < 0 by omega), w64 q0 q1]; simp
    · by_cases hr : a % b = 0
      · obtain ⟨t2, t1⟩ := (tn (by omega)).1 hr
        simp only [t1, t2, if_neg (show ¬ (0 : Int) < 0 by omega), if_pos (show a < 0 by omega), w64 q0 q1, hr]; simp
      · obtain ⟨t2, t1⟩ := (tn (by omega)).2 hr
        have hneg := Int.ediv_neg_of_neg_of_pos (a := a) (b := b) (by omega) (by omega)
        simp only [t1, t2, if_pos (show a % b - b < 0 by omega), if_pos (show a < 0 by omega)]
        rw [w64 (x := a % b - b + b) (by omega) (by omega), if_pos (show a % b - b + b > 0 by omega), w64 (x := a / b + 1) (by omega) (by omega), w64 (x := a / b + 1 - 1) (by omega) (by omega)]
        have e1 : a / b + 1 - 1 = a / b := by omega
        have e2 : a % b - b + b = a % b := by omega
        rw [e1, e2]; simp

def divS (a b : Int) : Int := if b < 1 ∨ a < -1152921504606846976 ∨ 1152921504606846976 < a ∨ 1152921504606846976 < b then 0 else a / b + (if b ≤ 2 * (a % b) then 1 else 0)
theorem satE (a : Int) : num_Sat.f a = some (if a < -32768 then -32768 else if 32767 < a then 32767 else a) ∧ splicerref01_Sat.f a = some (if a < -32768 then -32768 else if 32767 < a then 32767 else a) := by
  unfold num_Sat.f splicerref01_Sat.f mx mn
  constructor
  · congr 1; repeat' split
    all_goals omega
  · congr 1; repeat' split
    all_goals omega

def absS (a : Int) : Int := if a < -4611686018427387904 ∨ 4611686018427387904 < a then 0 else if a < 0 then -a else a

theorem absE (a : Int) (k : Nat) (hk : 2 ≤ k) : num_Abs.f k a = some (absS a) ∧ splicerref01_Abs.f a = some (absS a) := by
  unfold num_Abs.f splicerref01_Abs.f absS
  rw [within1 _ _ (by decide) (by decide) k hk]
  simp only [Option.bind_some]
  by_cases h : a < -4611686018427387904
  · simp [h]; omega
  · by_cases h' : 4611686018427387904 < a
    · simp [h, h']; omega
    · simp only [if_pos (show decide (-4611686018427387904 ≤ a ∧ a ≤ 4611686018427387904) = true by simp; omega), if_neg h, if_neg (show ¬ a > 4611686018427387904 by omega), if_neg (show ¬ (a < -4611686018427387904 ∨ 4611686018427387904 < a) by omega), w64 (x := -a) (by omega) (by omega)]
      unfold mx
      constructor
      · split <;> rfl
      · congr 1; repeat' split
        all_goals omega

/-- A number divided by a power of two, to the nearest. -/
def shrS (x n : Int) : Int := if n < 0 ∨ 60 < n ∨ x < -2305843009213693952 ∨ 2305843009213693952 < x then 0 else x / 2 ^ n.toNat + (if 2 ^ n.toNat ≤ 2 * (x % 2 ^ n.toNat) then 1 else 0)

theorem pow_split (n : Nat) (h : 1 ≤ n) : (2 : Int) ^ n = 2 * 2 ^ (n - 1) := by
  obtain ⟨m, rfl⟩ : ∃ m, n = m + 1 := ⟨n - 1, by omega⟩
  rw [Int.pow_succ, Int.mul_comm]; rfl

theorem pow_le (n : Nat) (h : n ≤ 60) : 1 ≤ (2 : Int) ^ n ∧ (2 : Int) ^ n ≤ 1152921504606846976 := by
  have h1 : (2 : Nat) ^ n ≤ 2 ^ 60 := Nat.pow_le_pow_right (by decide) h
  have h2 : 1 ≤ (2 : Nat) ^ n := Nat.one_le_two_pow
  have e : ((2 ^ n : Nat) : Int) = (2 : Int) ^ n := by simp
  have e60 : (2 : Nat) ^ 60 = 1152921504606846976 := by decide
  omega

theorem shl1 (n : Nat) (h : n ≤ 60) : shl .i64 1 n = 2 ^ n := by
  unfold shl
  have : min (n : Int).toNat IntKind.i64.bits = n := by simp [IntKind.bits]; omega
  rw [this, IntKind.wrap_i64]
  have := pow_le n h
  omega

theorem shr64 (x : Int) (n : Nat) (h : n ≤ 60) : shr .i64 x n = x / 2 ^ n := by
  unfold shr
  have : min (n : Int).toNat IntKind.i64.bits = n := by simp [IntKind.bits]; omega
  rw [this]

theorem half_up (x p q : Int) (hq : q = 2 * p) (hp : 1 ≤ p) : (x + p) / q = x / q + (if q ≤ 2 * (x % q) then 1 else 0) := by
  subst hq
  have e := Int.mul_ediv_add_emod x (2 * p)
  have m0 := Int.emod_nonneg x (show 2 * p ≠ 0 by omega)
  have m1 := Int.emod_lt_of_pos x (show 0 < 2 * p by omega)
  generalize x / (2 * p) = q at *
  generalize x % (2 * p) = r at *
  split
  · have : x + p = (r + p - 2 * p) + (2 * p) * (q + 1) := by rw [Int.mul_add]; omega
    rw [this, Int.add_mul_ediv_left _ _ (by omega), Int.ediv_eq_zero_of_lt (by omega) (by omega)]; omega
  · have : x + p = (r + p) + (2 * p) * q := by omega
    rw [this, Int.add_mul_ediv_left _ _ (by omega), Int.ediv_eq_zero_of_lt (by omega) (by omega)]; omega

theorem shrE (x n : Int) (h0 : -9223372036854775808 ≤ x) (h1 : x ≤ 9223372036854775807) (hn : -9223372036854775808 ≤ n) (hn' : n ≤ 9223372036854775807) (k : Nat) (hk : 3 ≤ k) :
    num_Shr.f k x n = some (shrS x n) ∧ splicerref01_Shr.f k x n = some (shrS x n) := by
  have hk1 : k = (k - 1) + 1 := by omega
  unfold num_Shr.f splicerref01_Shr.f shrS
  rw [within1 _ _ (by decide) (by decide) k (by omega)]
  rw [hk1]
  simp only [num_Shr.j0, splicerref01_Shr.j0, Option.bind_some]
  by_cases hr : n < 0 ∨ 60 < n ∨ x < -2305843009213693952 ∨ 2305843009213693952 < x
  · rw [if_pos hr]
    constructor
    · by_cases a1 : n < 0
      · rw [if_pos a1]; rfl
      · rw [if_neg a1]
        by_cases a2 : n > 60
        · rw [if_pos a2]; rfl
        · rw [if_neg a2, if_pos (by simp; omega)]
    · by_cases a1 : x < -2305843009213693952
      · rw [if_pos a1]; rfl
      · rw [if_neg a1]
        by_cases a2 : x > 2305843009213693952
        · rw [if_pos a2]; rfl
        · rw [if_neg a2]
          by_cases a3 : n < 0
          · rw [if_pos a3]; rfl
          · rw [if_neg a3, if_pos (by simp; omega)]
  · have d1 : (!decide (-2305843009213693952 ≤ x ∧ x ≤ 2305843009213693952)) = false := by simp; omega
    have d2 : decide (n > 60) = false := by simp; omega
    simp only [if_neg hr, if_neg (show ¬ n < 0 by omega), if_neg (show ¬ n > 60 by omega), if_neg (show ¬ x < -2305843009213693952 by omega), if_neg (show ¬ x > 2305843009213693952 by omega), d1, d2, if_pos (show 0 ≤ n by omega), if_neg (show ¬ (false = true) by decide)]
    obtain ⟨m, rfl⟩ : ∃ m : Nat, n = m := ⟨n.toNat, by omega⟩
    have hm : m ≤ 60 := by omega
    have hp := pow_le m hm
    rw [shl1 m hm, shr64 _ m hm]
    simp only [Int.toNat_natCast]
    constructor
    · by_cases hz : (m : Int) = 0
      · have : m = 0 := by omega
        subst this
        simp
      · rw [if_neg hz, w64 (x := (m : Int) - 1) (by omega) (by omega), if_pos (by omega)]
        have e1 : ((m : Int) - 1) = ((m - 1 : Nat) : Int) := by omega
        have hp' := pow_le (m - 1) (by omega)
        rw [e1, shl1 (m - 1) (by omega), w64 (by omega) (by omega), half_up x _ _ (pow_split m (by omega)) hp'.1]
    · rw [(modE x (2 ^ m) h0 h1 (by omega)).2, if_neg (by omega)]
      simp only [Option.bind_some]
      obtain ⟨q0, q1, m0, m1⟩ := quo_bounds x (2 ^ m) hp.1 h0 h1
      have hq : x / 2 ^ m ≤ 2305843009213693952 := by
        by_cases h : 0 ≤ x
        · have := Int.ediv_le_self (2 ^ m) h; omega
        · have := Int.ediv_neg_of_neg_of_pos (a := x) (b := 2 ^ m) (by omega) (by omega); omega
      rw [w64 (x := 2 * (x % 2 ^ m)) (by omega) (by omega), w64 (x := x / 2 ^ m + 1) (by omega) (by omega)]
      by_cases h : (2 : Int) ^ m ≤ 2 * (x % 2 ^ m)
      · rw [if_pos h, if_pos h]
      · rw [if_neg (by omega), if_neg h]; simp

end Go.Proofs.Ytaoodgijapiipaa.NumLem
