/- GainZero: gains of 0 leave a right track as it was, none is far from itself, and the distance is the same both ways; any tracks. -/
import Derived.Test.YtaoodgijapiipaaGGainRowB
import Derived.Test.YtaoodgijapiipaaGGainLem
namespace Go.Proofs.Ytaoodgijapiipaa.Pure
open Go.RowKit Go.Proofs.Ytaoodgijapiipaa.S Go.Proofs.YtaoodgijapiipaaW.PrintWords Go.Proofs.YtaoodgijapiipaaW.PrintLast Go.Proofs.YtaoodgijapiipaaW.PrintMore
open RowsLem GainLem

theorem apply_zero (x : Int) (h1 : -32768 ≤ x) (h2 : x ≤ 32767) : GL.applyS x 0 = x := by
  have g0 : GL.gainS 0 = 65536 := by decide +kernel
  have s16 : ∀ v : Int, -2305843009213693952 ≤ v → v ≤ 2305843009213693952 → GL.shrS v 16 = v / 65536 + (if 65536 ≤ 2 * (v % 65536) then 1 else 0) := by
    intro v h h'
    unfold GL.shrS
    rw [if_neg (show ¬ ((16 : Int) < 0 ∨ 60 < (16 : Int) ∨ v < -2305843009213693952 ∨ 2305843009213693952 < v) by omega)]
    rfl
  unfold GL.applyS GL.satS
  rw [g0, if_neg (show ¬ (x < -1073741824 ∨ 1073741824 < x) by omega), NumLem.w64 (by omega) (by omega), s16 _ (by omega) (by omega)]
  repeat' split
  all_goals omega
theorem right_in {a : List (List Int)} {g : List Int} (h : gainR a g = true) : (a.length = 1 ∨ a.length = 2) ∧ ∀ x, x ∈ a → x.length = g.length ∧ ∀ y, y ∈ x → -32768 ≤ y ∧ y ≤ 32767 := by
  unfold gainR at h
  simp only [Bool.and_eq_true, decide_eq_true_eq, Bool.not_eq_true', List.any_eq_false] at h
  refine ⟨h.1.1, fun x hx => ?_⟩
  have := h.2 x hx
  unfold gainBad at this
  simp only [Bool.or_eq_true, decide_eq_true_eq, not_or, Decidable.not_not, List.any_eq_true, not_exists, not_and, Bool.not_eq_true', Bool.and_eq_false_iff, decide_eq_false_iff_not] at this
  refine ⟨this.1, fun y hy => ?_⟩
  have := this.2 y hy
  omega
theorem sound_zero {a : List (List Int)} {n : Nat} (h : gainR a (List.replicate n 0) = true) : soundL a (List.replicate n 0) = a := by
  obtain ⟨_, h2⟩ := right_in h
  unfold soundL
  rw [if_pos h]
  have e : ∀ x ∈ a, rowS (fun j => x.getD j 0) (fun j => (List.replicate n (0 : Int)).getD j 0) (List.replicate n (0 : Int)).length = id x := by
    intro x hx
    obtain ⟨hl, hy⟩ := h2 x hx
    rw [rowS_is]
    unfold row
    apply List.ext_getElem
    · simp [hl]
    · intro i i1 i2
      have i2' : i < x.length := i2
      simp only [List.getElem_map, List.getElem_range, id]
      rw [getD_at _ _ i2', getD_at _ _ (by rw [← hl]; exact i2'), List.getElem_replicate]
      exact apply_zero _ (hy _ (List.getElem_mem i2')).1 (hy _ (List.getElem_mem i2')).2
  rw [List.map_congr_left e, List.map_id]
theorem good_same {x : List Int} (h : ∀ y, y ∈ x → -32768 ≤ y ∧ y ≤ 32767) : rowGood x x = true := by
  have hn : nearB x = true := by
    unfold nearB
    rw [Bool.not_eq_true', List.any_eq_false]
    intro y hy
    have := h y hy
    simp; omega
  unfold rowGood; rw [hn, decide_eq_true rfl]; rfl
theorem iabs_c (a b : Int) : iabs (a - b) = iabs (b - a) := by unfold iabs; split <;> split <;> omega
theorem step_c (x y : Nat → Int) : stepV x y = stepV y x := by
  funext n j; unfold stepV; rw [iabs_c]
theorem row_c (x y : List Int) (n : Int) (m : Nat) : rowV x y n m = rowV y x n m := by unfold rowV; rw [step_c]
theorem good_c (x y : List Int) : rowGood x y = rowGood y x := by
  unfold rowGood
  rw [Bool.and_right_comm, Bool.and_assoc, Bool.and_assoc]
  congr 1
  exact decide_eq_decide.2 eq_comm
theorem good_len {x y : List Int} (h : rowGood x y = true) : x.length = y.length := by
  unfold rowGood at h; simp only [Bool.and_eq_true, decide_eq_true_eq] at h; exact h.1.1
theorem foldl_same {α β : Type} (f g : α → β → α) (l : List β) (h : ∀ n x, x ∈ l → f n x = g n x) : ∀ n, l.foldl f n = l.foldl g n := by
  induction l with
  | nil => intro n; rfl
  | cons x l ih => intro n; rw [List.foldl_cons, List.foldl_cons, h n x (by simp), ih (fun n y hy => h n y (by simp [hy]))]
theorem ans_c (m : Nat) (xs ys : Nat → List Int) : worstAns m xs ys = worstAns m ys xs := by
  unfold worstAns
  have e : ((List.finRange m).all fun i : Fin m => rowGood (xs i) (ys i)) = ((List.finRange m).all fun i : Fin m => rowGood (ys i) (xs i)) := by
    congr 1; funext i; exact good_c _ _
  rw [← e]
  by_cases h : ((List.finRange m).all fun i : Fin m => rowGood (xs i) (ys i)) = true
  · rw [if_pos h, if_pos h]
    refine foldl_same _ _ _ (fun n i hi => ?_) 0
    rw [row_c, good_len (List.all_eq_true.1 h i hi)]
  · rw [if_neg h, if_neg h]
theorem worst_c (a b : List (List Int)) : worstL a b = worstL b a := by
  unfold worstL
  by_cases h : a.length = b.length
  · rw [if_pos h, if_pos h.symm, ans_c, h]
  · rw [if_neg h, if_neg (fun e => h e.symm)]
theorem foldl_id {α β : Type} (f : α → β → α) (a : α) (l : List β) (h : ∀ x, x ∈ l → f a x = a) : l.foldl f a = a := by
  induction l with
  | nil => rfl
  | cons x l ih => rw [List.foldl_cons, h x (by simp)]; exact ih (fun y hy => h y (by simp [hy]))
theorem worst_zero {a : List (List Int)} (h : ∀ x, x ∈ a → ∀ y, y ∈ x → -32768 ≤ y ∧ y ≤ 32767) : worstL a a = 0 := by
  unfold worstL worstAns
  rw [if_pos rfl, if_pos]
  · refine foldl_id _ _ _ fun i _ => ?_
    unfold rowV
    refine foldl_id _ _ _ fun j _ => ?_
    show stepV _ _ 0 _ = 0
    unfold stepV iabs
    simp
  · rw [List.all_eq_true]
    intro i _
    have hi := i.2
    show rowGood (a.getD i []) (a.getD i []) = true
    rw [getL_at a i hi]
    exact good_same (h _ (List.getElem_mem hi))

theorem GainZero : splicerlaw25_GainZero.Pure := by
  intro a g b
  refine Ev.rounds ?_
  have aw : (splicerlaw25_awake.f.bind fun t => some t) = some true := rfl
  have hout : Ev (fun k => splicerlaw25_GainZero.j0 k b true a g) true := by
    refine Ev.step (f := fun _ => some true) (fun k => ?_) (Ev.now true)
    simp only [splicerlaw25_GainZero.j0]; rw [if_pos trivial, aw]
  refine Ev.bind (fewE a g) ?_
  cases ha : few a g with
  | false => exact ev_neg (by decide) hout
  | true =>
    refine ev_pos rfl ?_
    refine Ev.bind (fewE b []) ?_
    cases hb : few b [] with
    | false => exact hout
    | true =>
      obtain ⟨a1, a2, a3⟩ := few_b ha
      generalize hz : (List.replicate g.length 0 : List Int) = z
      have zl : z.length = g.length := by rw [← hz]; simp
      have hlast : Ev (fun k => splicerlaw25_GainZero.j1 k b false a z) true := by
        refine Ev.step (f := fun _ => some true) (fun k => ?_) (Ev.now true)
        simp only [splicerlaw25_GainZero.j1, gain_Worst.f, Option.bind_some, aw]
        rw [if_neg (by decide), if_pos (worst_c a b)]
      have hr := rightE a z (by omega) (by omega) (fun x hx => by have := a3 x hx; omega)
      refine Ev.step (f := fun k => (splicerref25_Right.f k a z).bind fun t232 => if (gainR a z != t232) = true then splicerlaw25_GainZero.j1 k b true a z else (splicerref25_Right.f k a z).bind fun t233 => if t233 = true then (splicerref01_SameAll.f k (soundL a z) a).bind fun t237 => (if t237 = true then splicerlaw25_GainZero.j1 k b (worstL a a != 0) a z else splicerlaw25_GainZero.j1 k b true a z) else splicerlaw25_GainZero.j1 k b false a z) (fun k => ?_) ?_
      · simp only [splicerlaw25_GainZero.j0]
        have e : gain_Sound.f a z = some (soundL a z) := by unfold gain_Sound.f; rw [if_pos (by omega)]
        rw [if_neg (by decide), if_pos (by omega), if_pos (by omega)]
        have ez : (List.replicate ((g.length : Int)).toNat 0 : List Int) = z := by rw [← hz, Int.toNat_natCast]
        simp only [ez, e, Option.bind_some, gain_Right.f, gain_Worst.f]
      · refine Ev.bind hr ?_
        refine ev_neg (by simp) ?_
        refine Ev.bind hr ?_
        cases hR : gainR a z with
        | false => exact ev_neg (by decide) hlast
        | true =>
          refine ev_pos rfl ?_
          have hs := sameAllE (soundL a z) a (by have := sound_b (a := a) (g := z) (by unfold few at ha ⊢; rw [zl]; exact ha); omega) (fun x hx => by have := (sound_b (a := a) (g := z) (by unfold few at ha ⊢; rw [zl]; exact ha)).2 x hx; omega)
          have e1 : soundL a z = a := by rw [← hz] at hR ⊢; exact sound_zero hR
          rw [decide_eq_true e1] at hs
          refine Ev.bind hs ?_
          refine ev_pos rfl ?_
          have e2 : worstL a a = 0 := worst_zero fun x hx => ((right_in hR).2 x hx).2
          rw [e2]
          exact hlast

end Go.Proofs.Ytaoodgijapiipaa.Pure
