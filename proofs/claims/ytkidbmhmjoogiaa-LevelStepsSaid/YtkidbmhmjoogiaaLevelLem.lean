import Derived.Test.YtkidbmhmjoogiaaSx5
import Derived.Test.YtkidbmhmjoogiaaSx6
import Derived.Test.YtkidbmhmjoogiaaNumLem
/-! What the functions of level and of its reference come to, as whole numbers: no Go, no memory. -/
namespace Go.Proofs.Ytkidbmhmjoogiaa.LevelLem
open Go.RowKit Go.Proofs.Ytkidbmhmjoogiaa.S Go.Proofs.YtkidbmhmjoogiaaW.PrintWords Go.Proofs.YtkidbmhmjoogiaaW.PrintLast Go.Proofs.YtkidbmhmjoogiaaW.PrintMore Go.Proofs.Ytkidbmhmjoogiaa.NumLem

def quarter (f : Int) : Int := if f = 0 then 16777216 else if f = 1 then 19951585 else if f = 2 then 23726566 else 28215802
theorem quarter_b (f : Int) : 16777216 ≤ quarter f ∧ quarter f ≤ 28215802 := by
  unfold quarter; repeat' split
  all_goals omega
def ampS (c f : Int) : Int := if c < 1 ∨ 23 < c ∨ f < 0 ∨ 3 < f then 0 else shrS (quarter f) (24 - c)
def gainS (g : Int) : Int := if g < -64 ∨ 32 < g then 0 else shrS (quarter (g % 4)) (8 - g / 4)
theorem stepE (f : Int) : splicerref08_step.f f = some (quarter f) := by
  unfold splicerref08_step.f quarter; repeat' split
  all_goals rfl

theorem ampE (c f : Int) : level_Amp.f c f = some (ampS c f) := by
  unfold level_Amp.f ampS
  by_cases h1 : c < 1
  · simp [h1]
  by_cases h2 : c > 23
  · simp [h1, h2]
  by_cases h3 : f < 0
  · simp [h1, h2, h3]
  by_cases h4 : f > 3
  · simp [h1, h2, h3, h4]
  simp only [if_neg h1, if_neg h2, if_neg h3, if_neg h4, if_neg (show ¬ (c < 1 ∨ 23 < c ∨ f < 0 ∨ 3 < f) by omega)]
  have q := quarter_b f
  show num_Shr.f 5 (quarter f) _ = _
  rw [w64 (x := 24 - c) (by omega) (by omega), (shrE _ _ (by omega) (by omega) (by omega) (by omega) 5 (by decide)).1]

theorem rampE (c f : Int) (k : Nat) (hk : 4 ≤ k) : splicerref08_Amp.f k c f = some (ampS c f) := by
  have hk1 : k = (k - 1) + 1 := by omega
  unfold splicerref08_Amp.f ampS
  rw [hk1]
  simp only [splicerref08_Amp.j0]
  by_cases h1 : c < 1
  · simp [h1]
  by_cases h2 : c > 23
  · simp [h1, h2]
  by_cases h3 : f < 0
  · simp [h1, h2, h3]
  by_cases h4 : f > 3
  · simp [h1, h2, h3, h4]
  simp only [if_neg h1, if_neg h2, if_neg h3, decide_eq_false h4, if_neg (show ¬ (c < 1 ∨ 23 < c ∨ f < 0 ∨ 3 < f) by omega), stepE]
  have q := quarter_b f
  rw [w64 (x := 24 - c) (by omega) (by omega)]
  simp only [Option.bind_some, if_neg (show ¬ (false = true) by decide)]
  rw [(shrE _ _ (by omega) (by omega) (by omega) (by omega) (k - 1) (by omega)).2]; rfl

theorem gainE (g : Int) : level_Gain.f g = some (gainS g) := by
  unfold level_Gain.f gainS
  by_cases h1 : g < -64
  · simp [h1]
  by_cases h2 : g > 32
  · simp [h1, h2]
  simp only [if_neg h1, if_neg h2, if_neg (show ¬ (g < -64 ∨ 32 < g) by omega)]
  have q := quarter_b (g % 4)
  show num_Shr.f 5 (quarter (g % 4)) _ = _
  rw [w64 (x := 8 - g / 4) (by omega) (by omega), (shrE _ _ (by omega) (by omega) (by omega) (by omega) 5 (by decide)).1]

theorem rgainE (g : Int) (k : Nat) (hk : 4 ≤ k) : splicerref08_Gain.f k g = some (gainS g) := by
  have hk1 : k = (k - 1) + 1 := by omega
  unfold splicerref08_Gain.f gainS
  rw [hk1]
  simp only [splicerref08_Gain.j0]
  by_cases h1 : g < -64
  · simp [h1]
  by_cases h2 : g > 32
  · simp [h1, h2]
  simp only [if_neg h1, decide_eq_false h2, if_neg (show ¬ (g < -64 ∨ 32 < g) by omega), if_neg (show ¬ (false = true) by decide)]
  have q := quarter_b (g % 4)
  rw [(modE g 4 (by omega) (by omega) (by omega)).2, if_neg (by decide)]
  simp only [Option.bind_some, stepE]
  rw [w64 (x := 8 - g / 4) (by omega) (by omega), (shrE _ _ (by omega) (by omega) (by omega) (by omega) (k - 1) (by omega)).2]; rfl

theorem w64_range (x : Int) : -9223372036854775808 ≤ wrap64 x ∧ wrap64 x ≤ 9223372036854775807 := by unfold wrap64; omega

def satS (a : Int) : Int := if a < -32768 then -32768 else if 32767 < a then 32767 else a
def applyS (x g : Int) : Int := if x < -1073741824 ∨ 1073741824 < x then 0 else satS (shrS (wrap64 (x * gainS g)) 16)
theorem applyE (x g : Int) (k : Nat) (hk : 6 ≤ k) : level_Apply.f k x g = some (applyS x g) ∧ splicerref08_Apply.f k x g = some (applyS x g) := by
  have hk1 : k = (k - 1) + 1 := by omega
  unfold level_Apply.f splicerref08_Apply.f applyS
  rw [hk1]
  simp only [level_Apply.j0, splicerref08_Apply.j0]
  have wr := w64_range (x * gainS g)
  have s := shrE (wrap64 (x * gainS g)) 16 wr.1 wr.2 (by decide) (by decide) (k - 1) (by omega)
  by_cases h1 : x < -1073741824
  · simp [h1]
  by_cases h2 : x > 1073741824
  · simp [h1, h2]
  simp only [if_neg h1, decide_eq_false h2, if_neg (show ¬ (x < -1073741824 ∨ 1073741824 < x) by omega), if_neg (show ¬ (false = true) by decide), gainE, rgainE g (k - 1) (by omega), Option.bind_some, s.1, s.2, (satE _).1, (satE _).2, satS, and_self]

/-- The steps of loudness, one behind the other. -/
def T (n : Nat) : Int := ampS ((n / 4 : Nat) : Int) ((n % 4 : Nat) : Int)
theorem T_step (n : Nat) (h : 4 ≤ n) (h' : n < 95) : T n ≤ T (n + 1) := by
  have : ∀ i, i < 91 → T (i + 4) ≤ T (i + 5) := by decide +kernel
  have := this (n - 4) (by omega)
  rwa [show n - 4 + 4 = n by omega, show n - 4 + 5 = n + 1 by omega] at this
theorem T_mono (n : Nat) (h : 4 ≤ n) (d : Nat) : n + d ≤ 95 → T n ≤ T (n + d) := by
  induction d with
  | zero => intro _; exact Int.le_refl _
  | succ d ih => intro hd; exact Int.le_trans (ih (by omega)) (T_step (n + d) (by omega) (by omega))
theorem T_le {n m : Nat} (h : 4 ≤ n) (h1 : n ≤ m) (h2 : m ≤ 95) : T n ≤ T m := by
  have := T_mono n h (m - n) (by omega)
  rwa [show n + (m - n) = m by omega] at this

/-- n is the step that is asked for: the last that is not louder than x; 3: there is none. -/
def Is (x : Int) (n : Nat) : Prop := 3 ≤ n ∧ n ≤ 95 ∧ (n = 3 ∨ T n ≤ x) ∧ ∀ m, n < m → m ≤ 95 → x < T m
theorem Is_one {x : Int} {n m : Nat} (h : Is x n) (h' : Is x m) : n = m := by
  obtain ⟨a1, a2, a3, a4⟩ := h
  obtain ⟨b1, b2, b3, b4⟩ := h'
  rcases Nat.lt_trichotomy n m with c | c | c
  · have := a4 m c b2; rcases b3 with b3 | b3 <;> omega
  · exact c
  · have := b4 n c a2; rcases a3 with a3 | a3 <;> omega
def res (n : Nat) : Int × Int := if n < 4 then (0, 0) else (((n / 4 : Nat) : Int), ((n % 4 : Nat) : Int))

theorem halves (x : Int) (k : Nat) : ∀ lo hi : Nat, 3 ≤ lo → lo < hi → hi ≤ 96 → (lo = 3 ∨ T lo ≤ x) → (hi = 96 ∨ x < T hi) → hi - lo < k →
    ∃ n, level_Find.l0 k x lo hi = some (res n) ∧ Is x n := by
  induction k with
  | zero => intro lo hi _ _ _ _ _ h; omega
  | succ k ih =>
    intro lo hi h3 hlt h96 hlo hhi hk
    simp only [level_Find.l0]
    rw [w64 (x := (hi : Int) - lo) (by omega) (by omega)]
    by_cases c : (hi : Int) - lo > 1
    · have e1 : wrap64 (((lo : Int) + hi).tdiv 2) = (((lo + hi) / 2 : Nat) : Int) := by
        rw [Int.tdiv_eq_ediv_of_nonneg (by omega), w64 (by omega) (by omega)]; omega
      rw [if_pos c, w64 (x := (lo : Int) + hi) (by omega) (by omega), e1]
      obtain ⟨m, hm⟩ : ∃ m, m = (lo + hi) / 2 := ⟨_, rfl⟩
      rw [← hm]
      have e2 : wrap64 ((m : Int).tdiv 4) = ((m / 4 : Nat) : Int) := by
        rw [Int.tdiv_eq_ediv_of_nonneg (by omega), w64 (by omega) (by omega)]; omega
      have e3 : (m : Int).tmod 4 = ((m % 4 : Nat) : Int) := by rw [Int.tmod_eq_emod_of_nonneg (by omega)]; omega
      rw [e2, e3, ampE]
      show ∃ n, (if T m ≤ x then _ else _) = _ ∧ _
      by_cases ht : T m ≤ x
      · rw [if_pos ht]; exact ih m hi (by omega) (by omega) h96 (.inr ht) hhi (by omega)
      · rw [if_neg ht]; exact ih lo m h3 (by omega) (by omega) hlo (.inr (by omega)) (by omega)
    · have hh : hi = lo + 1 := by omega
      rw [if_neg c]
      refine ⟨lo, ?_, h3, by omega, hlo, ?_⟩
      · unfold res
        by_cases h4 : lo < 4
        · rw [if_pos (by omega), if_pos h4]
        · rw [if_neg (by omega), if_neg h4, Int.tdiv_eq_ediv_of_nonneg (by omega), Int.tmod_eq_emod_of_nonneg (by omega), w64 (by omega) (by omega)]; rfl
      · intro m hm1 hm2
        rcases hhi with hhi | hhi
        · omega
        · exact Int.lt_of_lt_of_le hhi (T_le (by omega) (by omega) hm2)

theorem findE (x : Int) (k : Nat) (hk : 100 ≤ k) : ∃ n, level_Find.f k x = some (res n) ∧ Is x n := by
  unfold level_Find.f
  exact halves x k 3 96 (by decide) (by decide) (by decide) (.inl rfl) (.inl rfl) (by omega)

theorem downwards (x : Int) (n : Nat) : ∀ (k c f : Nat), n = 4 * c + f → 1 ≤ c → c ≤ 23 → f ≤ 3 → (∀ m, n < m → m ≤ 95 → x < T m) → 3 * n + 10 ≤ k →
    ∃ j, splicerref08_Find.l1 k x c f = some (res j) ∧ Is x j := by
  induction n with
  | zero => intro k c f h h1; omega
  | succ n ih =>
    intro k c f hn h1 h2 h3 hbig hk
    obtain ⟨k, rfl⟩ : ∃ m, k = m + 1 := ⟨k - 1, by omega⟩
    simp only [splicerref08_Find.l1]
    rw [if_pos (by omega), rampE _ _ _ (by omega)]
    have hT : ampS c f = T (n + 1) := by
      unfold T; rw [show (n + 1) / 4 = c by omega, show (n + 1) % 4 = f by omega]
    rw [Option.bind_some, hT]
    by_cases ht : T (n + 1) ≤ x
    · rw [if_pos ht]
      refine ⟨n + 1, ?_, by omega, by omega, .inr ht, hbig⟩
      unfold res; rw [if_neg (by omega), show (n + 1) / 4 = c by omega, show (n + 1) % 4 = f by omega]
    · rw [if_neg ht, w64 (by omega) (by omega)]
      have hbig' : ∀ m, n < m → m ≤ 95 → x < T m := by
        intro m hm1 hm2
        by_cases e : m = n + 1
        · subst e; omega
        · exact hbig m (by omega) hm2
      by_cases hf : f = 0
      · subst hf
        obtain ⟨k, rfl⟩ : ∃ m, k = m + 1 := ⟨k - 1, by omega⟩
        simp only [splicerref08_Find.l1]
        rw [if_neg (by omega), w64 (by omega) (by omega)]
        obtain ⟨k, rfl⟩ : ∃ m, k = m + 1 := ⟨k - 1, by omega⟩
        simp only [splicerref08_Find.l0]
        by_cases hc : c = 1
        · subst hc
          rw [if_neg (by omega)]
          refine ⟨3, by simp [res], by omega, by omega, .inl rfl, ?_⟩
          intro m hm1 hm2; exact hbig' m (by omega) hm2
        · rw [if_pos (by omega)]
          have e : ((c : Int) - 1) = ((c - 1 : Nat) : Int) := by omega
          rw [e]
          exact ih k (c - 1) 3 (by omega) (by omega) (by omega) (by omega) hbig' (by omega)
      · have e : ((f : Int) - 1) = ((f - 1 : Nat) : Int) := by omega
        rw [e]
        exact ih k c (f - 1) (by omega) h1 h2 (by omega) hbig' (by omega)

theorem rfindE (x : Int) (k : Nat) (hk : 300 ≤ k) : ∃ n, splicerref08_Find.f k x = some (res n) ∧ Is x n := by
  unfold splicerref08_Find.f
  obtain ⟨k, rfl⟩ : ∃ m, k = m + 1 := ⟨k - 1, by omega⟩
  simp only [splicerref08_Find.l0]
  rw [if_pos (by decide)]
  exact downwards x 95 k 23 3 (by decide) (by decide) (by decide) (by decide) (by intro m; omega) (by omega)

theorem awakeE (k : Nat) (hk : 100 ≤ k) : splicerlaw08_awake.f k = some true := by
  have h9 : ∃ n, level_Find.f k 9 = some (res n) ∧ Is 9 n := findE 9 k hk
  obtain ⟨n, h, hi⟩ := h9
  have h12 : Is 9 12 := by
    have h : ∀ m, m < 96 → 12 < m → 9 < T m := by decide +kernel
    exact ⟨by decide, by decide, .inr (by decide +kernel), fun m h1 h2 => h m (by omega) h1⟩
  obtain rfl := Is_one hi h12
  unfold splicerlaw08_awake.f
  rw [h, ampE, gainE, ampE, (applyE _ _ k (by omega)).1, (applyE _ _ k (by omega)).1]
  have e1 : applyS 100 4 = 200 := by unfold applyS; rw [w64 (by decide +kernel) (by decide +kernel)]; decide +kernel
  have e2 : applyS (-30000) 8 = -32768 := by unfold applyS; rw [w64 (by decide +kernel) (by decide +kernel)]; decide +kernel
  rw [e1, e2]
  decide +kernel

end Go.Proofs.Ytkidbmhmjoogiaa.LevelLem
