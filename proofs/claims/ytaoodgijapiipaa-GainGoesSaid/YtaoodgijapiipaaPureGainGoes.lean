/- GainGoes: a fade begins with x, ends with y, and does not turn back; it stays between both: for any two gains, 1 to 2^46 samples, any two of these. -/
import Derived.Test.YtaoodgijapiipaaSx15
import Derived.Test.YtaoodgijapiipaaFadeLem
namespace Go.Proofs.Ytaoodgijapiipaa.Pure
open Go.RowKit Go.Proofs.Ytaoodgijapiipaa.S Go.Proofs.YtaoodgijapiipaaW.PrintWords Go.Proofs.YtaoodgijapiipaaW.PrintLast Go.Proofs.YtaoodgijapiipaaW.PrintMore

theorem goes_of (p q a b : Int) (k : Nat) (h1 : p ≤ q → p ≤ a ∧ a ≤ b ∧ b ≤ q) (h2 : q ≤ p → q ≤ b ∧ b ≤ a ∧ a ≤ p) : splicerlaw25_GainGoes.j1 (k + 1) p q a b false = some true := by
  simp only [splicerlaw25_GainGoes.j1]
  have aw : (splicerlaw25_awake.f.bind fun t => some t) = some true := rfl
  unfold mn mx
  rw [if_neg (by decide), aw]
  rcases Int.le_total p q with h | h
  · obtain ⟨u1, u2, u3⟩ := h1 h
    rw [if_neg (by split <;> split <;> omega), if_neg (by split <;> split <;> omega), if_pos h, if_pos u2]
  · obtain ⟨u1, u2, u3⟩ := h2 h
    rw [if_neg (by split <;> split <;> omega), if_neg (by split <;> split <;> omega)]
    by_cases e : p ≤ q
    · have := h1 e
      rw [if_pos e, if_pos (by omega)]
    · rw [if_neg e, if_pos (by omega), if_pos (by omega)]

theorem GainGoes : splicerlaw25_GainGoes.Pure := by
  intro x y n i k hx hy hn hi hk
  refine ⟨10, ?_⟩
  have bx := bounds_u8 hx
  have by_ := bounds_u8 hy
  have bn := bounds_i64 hn
  have bi := bounds_i64 hi
  have bk := bounds_i64 hk
  have aw : (splicerlaw25_awake.f.bind fun t => some t) = some true := rfl
  have ex : wrap64 (Int.tmod (wrap64 x) 97 - 64) = x % 97 - 64 := by
    rw [NumLem.w64 (x := x) (by omega) (by omega), Int.tmod_eq_emod_of_nonneg (by omega), NumLem.w64 (by omega) (by omega)]
  have ey : wrap64 (Int.tmod (wrap64 y) 97 - 64) = y % 97 - 64 := by
    rw [NumLem.w64 (x := y) (by omega) (by omega), Int.tmod_eq_emod_of_nonneg (by omega), NumLem.w64 (by omega) (by omega)]
  have hp0 : -64 ≤ x % 97 - 64 := by omega
  have hp1 : x % 97 - 64 ≤ 32 := by omega
  have hq0 : -64 ≤ y % 97 - 64 := by omega
  have hq1 : y % 97 - 64 ≤ 32 := by omega
  unfold splicerlaw25_GainGoes.f
  simp only [splicerlaw25_GainGoes.j0, ex, ey, aw]
  generalize x % 97 - 64 = p at *
  generalize y % 97 - 64 = q at *
  by_cases c1 : n < 1
  · simp [c1]
  by_cases c2 : n > 70368744177664
  · simp [c1, c2]
  by_cases c3 : i < 0
  · simp [c1, c2, c3]
  by_cases c4 : i ≥ n
  · simp [c1, c2, c3, c4]
  by_cases c5 : k < 0
  · simp [c1, c2, c3, c4, c5]
  by_cases c6 : k ≥ n
  · simp [c1, c2, c3, c4, c5, c6]
  rw [if_neg c1, if_neg c2, if_neg c3, if_neg c4, if_neg c5, decide_eq_false c6, if_neg (by decide)]
  have F := fun j => (FadeLem.fadeE p q n j 9 (by decide)).1
  rw [F, F, F, F]
  simp only [Option.bind_some]
  by_cases h1 : n = 1
  · subst h1
    have hmn : mn i k = 0 := by unfold mn; split <;> omega
    have hmx : mx i k = 0 := by unfold mx; split <;> omega
    have e0 : FadeLem.fadeS p q 1 0 = p := by unfold FadeLem.fadeS; rw [if_neg (by omega), if_pos rfl]
    rw [hmn, hmx, e0, if_pos rfl, if_neg (by decide)]
    exact goes_of p q p p 8 (fun h => ⟨by omega, by omega, h⟩) (fun h => ⟨h, by omega, by omega⟩)
  · have hle : mn i k ≤ mx i k := by unfold mn mx; split <;> split <;> omega
    have h0 : 0 ≤ mn i k := by unfold mn; split <;> omega
    have hlt : mx i k < n := by unfold mx; split <;> omega
    generalize mn i k = a at *
    generalize mx i k = b at *
    have ends := FadeLem.fade_ends p q n hp0 hp1 hq0 hq1 (by omega) (by omega)
    rw [ends.1, if_pos rfl, if_pos (by omega), NumLem.w64 (x := n - 1) (by omega) (by omega), ends.2, bne_self_eq_false]
    have A := (FadeLem.fade_is p q n a hp0 hp1 hq0 hq1 (by omega) (by omega) h0 (by omega)).2
    have B := (FadeLem.fade_is p q n b hp0 hp1 hq0 hq1 (by omega) (by omega) (by omega) hlt).2
    have M := FadeLem.fade_mono p q n a b hp0 hp1 hq0 hq1 (by omega) (by omega) h0 hle hlt
    exact goes_of p q _ _ 8 (fun h => ⟨(A.1 h).1, M.1 h, (B.1 h).2⟩) (fun h => ⟨(B.2 h).1, M.2 h, (A.2 h).2⟩)

end Go.Proofs.Ytaoodgijapiipaa.Pure
