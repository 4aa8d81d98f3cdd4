-- Written for this claim by a program of the session (myprint.py), out of the translation's own print; Lean checks it.
import Derived.Test.YtkidbmhmjoogiaaSx0
import Derived.Test.YtkidbmhmjoogiaaSx5
import Derived.Test.YtkidbmhmjoogiaaSx6
namespace Go.Proofs.Ytkidbmhmjoogiaa.S
open Go.RowKit Go.Proofs.YtkidbmhmjoogiaaW.PrintWords Go.Proofs.YtkidbmhmjoogiaaW.PrintLast Go.Proofs.YtkidbmhmjoogiaaW.PrintMore
attribute [local go_sem] max2_int min2_int max_two min_two max_three min_three max_four min_four   -- for this text's walks alone
set_option linter.unusedVariables false
set_option linter.unusedSimpArgs false

/-! ### splicerlaw08_LevelSteps: function 10 -/
mutual
def splicerlaw08_LevelSteps.j0 : Nat → Int → Int → Int → Int → Int → Bool → Option (Bool)
  | 0, _, _, _, _, _, _ => none
  | k + 1, x0, x1, x6, x7, x8, x43 => if x43 = true then (some false) else (if x6 < 23 then ((level_Amp.f (wrap64 (x6 + 1)) x7).bind fun t192 => (if (wrap64 (t192 - (wrap64 (2 * x8)))) > 1 then (some false) else (if (wrap64 (t192 - (wrap64 (2 * x8)))) < (-1) then (some false) else (splicerlaw08_LevelSteps.j1 k x0 x1)))) else (splicerlaw08_LevelSteps.j1 k x0 x1))
def splicerlaw08_LevelSteps.j1 : Nat → Int → Int → Option (Bool)
  | 0, _, _ => none
  | k + 1, x0, x1 => (level_Gain.f (wrap64 ((wrap64 ((Int.tmod (wrap64 (x0)) 93) - 64)) + 4))).bind fun t193 => ((level_Gain.f (wrap64 ((Int.tmod (wrap64 (x0)) 93) - 64))).bind fun t194 => (if (wrap64 (t193 - (wrap64 (2 * t194)))) > 1 then (splicerlaw08_LevelSteps.j2 k x1 true) else (if (wrap64 (t193 - (wrap64 (2 * t194)))) < (-1) then (splicerlaw08_LevelSteps.j2 k x1 true) else ((level_Gain.f (wrap64 ((wrap64 ((Int.tmod (wrap64 (x0)) 93) - 64)) + 1))).bind fun t195 => ((level_Gain.f (wrap64 ((Int.tmod (wrap64 (x0)) 93) - 64))).bind fun t196 => (if t195 < t196 then (splicerlaw08_LevelSteps.j2 k x1 true) else (splicerlaw08_LevelSteps.j2 k x1 (decide (t196 < 1)))))))))
def splicerlaw08_LevelSteps.j2 : Nat → Int → Bool → Option (Bool)
  | 0, _, _ => none
  | k + 1, x1, x88 => if x88 = true then (some false) else (if x1 < 2 then (splicerlaw08_LevelSteps.j3 k x1 true) else (splicerlaw08_LevelSteps.j3 k x1 (decide (x1 > 1099511627776))))
def splicerlaw08_LevelSteps.j3 : Nat → Int → Bool → Option (Bool)
  | 0, _, _ => none
  | k + 1, x1, x94 => if x94 = true then ((splicerlaw08_awake.f k).bind fun t197 => (some t197)) else ((level_Find.f k x1).bind fun bt198 => (if bt198.1 < 1 then (splicerlaw08_LevelSteps.j4 k x1 bt198.1 bt198.2 true) else ((level_Amp.f bt198.1 bt198.2).bind fun t200 => (splicerlaw08_LevelSteps.j4 k x1 bt198.1 bt198.2 (decide (t200 > x1))))))
def splicerlaw08_LevelSteps.j4 : Nat → Int → Int → Int → Bool → Option (Bool)
  | 0, _, _, _, _ => none
  | k + 1, x1, x12, x13, x109 => if x109 = true then (some false) else (if (wrap64 ((wrap64 ((wrap64 (4 * x12)) + x13)) + 1)) ≥ 96 then ((splicerlaw08_awake.f k).bind fun t201 => (some t201)) else ((level_Amp.f (wrap64 (Int.tdiv (wrap64 ((wrap64 ((wrap64 (4 * x12)) + x13)) + 1)) 4)) (Int.tmod (wrap64 ((wrap64 ((wrap64 (4 * x12)) + x13)) + 1)) 4)).bind fun t202 => (if t202 > x1 then ((splicerlaw08_awake.f k).bind fun t203 => (some t203)) else (some false))))
end
def splicerlaw08_LevelSteps.f (k : Nat) (a0 : Int) (a1 : Int) : Option (Bool) := (level_Amp.f (wrap64 ((wrap64 (Int.tdiv (Int.tmod (wrap64 (a0)) 92) 4)) + 1)) (Int.tmod (wrap64 (a0)) 4)).bind fun t190 => (if t190 < 2 then (splicerlaw08_LevelSteps.j0 k a0 a1 (wrap64 ((wrap64 (Int.tdiv (Int.tmod (wrap64 (a0)) 92) 4)) + 1)) (Int.tmod (wrap64 (a0)) 4) t190 true) else (if (Int.tmod (wrap64 (a0)) 92) < 91 then ((level_Amp.f (wrap64 ((wrap64 (Int.tdiv (wrap64 ((Int.tmod (wrap64 (a0)) 92) + 1)) 4)) + 1)) (Int.tmod (wrap64 ((Int.tmod (wrap64 (a0)) 92) + 1)) 4)).bind fun t191 => (splicerlaw08_LevelSteps.j0 k a0 a1 (wrap64 ((wrap64 (Int.tdiv (Int.tmod (wrap64 (a0)) 92) 4)) + 1)) (Int.tmod (wrap64 (a0)) 4) t190 (decide (t191 < t190)))) else (splicerlaw08_LevelSteps.j0 k a0 a1 (wrap64 ((wrap64 (Int.tdiv (Int.tmod (wrap64 (a0)) 92) 4)) + 1)) (Int.tmod (wrap64 (a0)) 4) t190 false)))
theorem splicerlaw08_LevelSteps.mono_l : ∀ k, (∀ y0 y1 y2 y3 y4 y5, LeO (splicerlaw08_LevelSteps.j0 k y0 y1 y2 y3 y4 y5) (splicerlaw08_LevelSteps.j0 (k + 1) y0 y1 y2 y3 y4 y5)) ∧ (∀ y0 y1, LeO (splicerlaw08_LevelSteps.j1 k y0 y1) (splicerlaw08_LevelSteps.j1 (k + 1) y0 y1)) ∧ (∀ y0 y1, LeO (splicerlaw08_LevelSteps.j2 k y0 y1) (splicerlaw08_LevelSteps.j2 (k + 1) y0 y1)) ∧ (∀ y0 y1, LeO (splicerlaw08_LevelSteps.j3 k y0 y1) (splicerlaw08_LevelSteps.j3 (k + 1) y0 y1)) ∧ (∀ y0 y1 y2 y3, LeO (splicerlaw08_LevelSteps.j4 k y0 y1 y2 y3) (splicerlaw08_LevelSteps.j4 (k + 1) y0 y1 y2 y3))
  | 0 => ⟨fun _ _ _ _ _ _ r h => by simp [splicerlaw08_LevelSteps.j0] at h, fun _ _ r h => by simp [splicerlaw08_LevelSteps.j1] at h, fun _ _ r h => by simp [splicerlaw08_LevelSteps.j2] at h, fun _ _ r h => by simp [splicerlaw08_LevelSteps.j3] at h, fun _ _ _ _ r h => by simp [splicerlaw08_LevelSteps.j4] at h⟩
  | k + 1 => by
    obtain ⟨ih0, ih1, ih2, ih3, ih4⟩ := splicerlaw08_LevelSteps.mono_l k
    refine ⟨?_, ?_, ?_, ?_, ?_⟩
    · intro y0 y1 y2 y3 y4 y5
      unfold splicerlaw08_LevelSteps.j0
      repeat' first
      | (with_reducible exact ih0 _ _ _ _ _ _)
      | (with_reducible exact ih1 _ _)
      | (with_reducible exact ih2 _ _)
      | (with_reducible exact ih3 _ _)
      | (with_reducible exact ih4 _ _ _ _)
      | (with_reducible exact level_Find.mono _ _)
      | (with_reducible exact splicerlaw08_awake.mono _)
      | (with_reducible exact LeO.refl _)
      | (with_reducible exact LeO.none _)
      | (with_reducible refine LeO.ite ?_ ?_)
      | (with_reducible refine LeO.bind ?_ (fun _ => ?_))
      | exact ih0 _ _ _ _ _ _
      | exact ih1 _ _
      | exact ih2 _ _
      | exact ih3 _ _
      | exact ih4 _ _ _ _
      | exact level_Find.mono _ _
      | exact splicerlaw08_awake.mono _
      | exact LeO.none _
      | refine LeO.ite ?_ ?_
      | refine LeO.bind ?_ (fun _ => ?_)
    · intro y0 y1
      unfold splicerlaw08_LevelSteps.j1
      repeat' first
      | (with_reducible exact ih0 _ _ _ _ _ _)
      | (with_reducible exact ih1 _ _)
      | (with_reducible exact ih2 _ _)
      | (with_reducible exact ih3 _ _)
      | (with_reducible exact ih4 _ _ _ _)
      | (with_reducible exact level_Find.mono _ _)
      | (with_reducible exact splicerlaw08_awake.mono _)
      | (with_reducible exact LeO.refl _)
      | (with_reducible exact LeO.none _)
      | (with_reducible refine LeO.ite ?_ ?_)
      | (with_reducible refine LeO.bind ?_ (fun _ => ?_))
      | exact ih0 _ _ _ _ _ _
      | exact ih1 _ _
      | exact ih2 _ _
      | exact ih3 _ _
      | exact ih4 _ _ _ _
      | exact level_Find.mono _ _
      | exact splicerlaw08_awake.mono _
      | exact LeO.none _
      | refine LeO.ite ?_ ?_
      | refine LeO.bind ?_ (fun _ => ?_)
    · intro y0 y1
      unfold splicerlaw08_LevelSteps.j2
      repeat' first
      | (with_reducible exact ih0 _ _ _ _ _ _)
      | (with_reducible exact ih1 _ _)
      | (with_reducible exact ih2 _ _)
      | (with_reducible exact ih3 _ _)
      | (with_reducible exact ih4 _ _ _ _)
      | (with_reducible exact level_Find.mono _ _)
      | (with_reducible exact splicerlaw08_awake.mono _)
      | (with_reducible exact LeO.refl _)
      | (with_reducible exact LeO.none _)
      | (with_reducible refine LeO.ite ?_ ?_)
      | (with_reducible refine LeO.bind ?_ (fun _ => ?_))
      | exact ih0 _ _ _ _ _ _
      | exact ih1 _ _
      | exact ih2 _ _
      | exact ih3 _ _
      | exact ih4 _ _ _ _
      | exact level_Find.mono _ _
      | exact splicerlaw08_awake.mono _
      | exact LeO.none _
      | refine LeO.ite ?_ ?_
      | refine LeO.bind ?_ (fun _ => ?_)
    · intro y0 y1
      unfold splicerlaw08_LevelSteps.j3
      repeat' first
      | (with_reducible exact ih0 _ _ _ _ _ _)
      | (with_reducible exact ih1 _ _)
      | (with_reducible exact ih2 _ _)
      | (with_reducible exact ih3 _ _)
      | (with_reducible exact ih4 _ _ _ _)
      | (with_reducible exact level_Find.mono _ _)
      | (with_reducible exact splicerlaw08_awake.mono _)
      | (with_reducible exact LeO.refl _)
      | (with_reducible exact LeO.none _)
      | (with_reducible refine LeO.ite ?_ ?_)
      | (with_reducible refine LeO.bind ?_ (fun _ => ?_))
      | exact ih0 _ _ _ _ _ _
      | exact ih1 _ _
      | exact ih2 _ _
      | exact ih3 _ _
      | exact ih4 _ _ _ _
      | exact level_Find.mono _ _
      | exact splicerlaw08_awake.mono _
      | exact LeO.none _
      | refine LeO.ite ?_ ?_
      | refine LeO.bind ?_ (fun _ => ?_)
    · intro y0 y1 y2 y3
      unfold splicerlaw08_LevelSteps.j4
      repeat' first
      | (with_reducible exact ih0 _ _ _ _ _ _)
      | (with_reducible exact ih1 _ _)
      | (with_reducible exact ih2 _ _)
      | (with_reducible exact ih3 _ _)
      | (with_reducible exact ih4 _ _ _ _)
      | (with_reducible exact level_Find.mono _ _)
      | (with_reducible exact splicerlaw08_awake.mono _)
      | (with_reducible exact LeO.refl _)
      | (with_reducible exact LeO.none _)
      | (with_reducible refine LeO.ite ?_ ?_)
      | (with_reducible refine LeO.bind ?_ (fun _ => ?_))
      | exact ih0 _ _ _ _ _ _
      | exact ih1 _ _
      | exact ih2 _ _
      | exact ih3 _ _
      | exact ih4 _ _ _ _
      | exact level_Find.mono _ _
      | exact splicerlaw08_awake.mono _
      | exact LeO.none _
      | refine LeO.ite ?_ ?_
      | refine LeO.bind ?_ (fun _ => ?_)
theorem splicerlaw08_LevelSteps.mono : ∀ a0 a1 k, LeO (splicerlaw08_LevelSteps.f k a0 a1) (splicerlaw08_LevelSteps.f (k + 1) a0 a1) := by
  intro a0 a1 k
  obtain ⟨ih0, ih1, ih2, ih3, ih4⟩ := splicerlaw08_LevelSteps.mono_l k
  unfold splicerlaw08_LevelSteps.f
  repeat' first
      | (with_reducible exact ih0 _ _ _ _ _ _)
      | (with_reducible exact ih1 _ _)
      | (with_reducible exact ih2 _ _)
      | (with_reducible exact ih3 _ _)
      | (with_reducible exact ih4 _ _ _ _)
      | (with_reducible exact level_Find.mono _ _)
      | (with_reducible exact splicerlaw08_awake.mono _)
      | (with_reducible exact LeO.refl _)
      | (with_reducible exact LeO.none _)
      | (with_reducible refine LeO.ite ?_ ?_)
      | (with_reducible refine LeO.bind ?_ (fun _ => ?_))
      | exact ih0 _ _ _ _ _ _
      | exact ih1 _ _
      | exact ih2 _ _
      | exact ih3 _ _
      | exact ih4 _ _ _ _
      | exact level_Find.mono _ _
      | exact splicerlaw08_awake.mono _
      | exact LeO.none _
      | refine LeO.ite ?_ ?_
      | refine LeO.bind ?_ (fun _ => ?_)
set_option maxHeartbeats 8000000 in
set_option maxRecDepth 100000 in
theorem splicerlaw08_LevelSteps.calls (k : Nat) (a0 : Int) (a1 : Int) (r : Bool) (w : World) (h : splicerlaw08_LevelSteps.f k a0 a1 = some r) :
    Calls Try.prog 10 #[.int .u8 a0, .int .i64 a1] w fun e w' => e = .returned (.bool r) ∧ Below w.heap.size w w' := by
  have HB := Aside0.mk (Below.refl w.heap.size w)
  have H : ((level_Amp.f (wrap64 ((wrap64 (Int.tdiv (Int.tmod (wrap64 (a0)) 92) 4)) + 1)) (Int.tmod (wrap64 (a0)) 4)).bind fun t190 => (if t190 < 2 then (splicerlaw08_LevelSteps.j0 k a0 a1 (wrap64 ((wrap64 (Int.tdiv (Int.tmod (wrap64 (a0)) 92) 4)) + 1)) (Int.tmod (wrap64 (a0)) 4) t190 true) else (if (Int.tmod (wrap64 (a0)) 92) < 91 then ((level_Amp.f (wrap64 ((wrap64 (Int.tdiv (wrap64 ((Int.tmod (wrap64 (a0)) 92) + 1)) 4)) + 1)) (Int.tmod (wrap64 ((Int.tmod (wrap64 (a0)) 92) + 1)) 4)).bind fun t191 => (splicerlaw08_LevelSteps.j0 k a0 a1 (wrap64 ((wrap64 (Int.tdiv (Int.tmod (wrap64 (a0)) 92) 4)) + 1)) (Int.tmod (wrap64 (a0)) 4) t190 (decide (t191 < t190)))) else (splicerlaw08_LevelSteps.j0 k a0 a1 (wrap64 ((wrap64 (Int.tdiv (Int.tmod (wrap64 (a0)) 92) 4)) + 1)) (Int.tmod (wrap64 (a0)) 4) t190 false)))) = some r := h
  clear h
  replace H := Option.bind_eq_some_iff.mp H
  obtain ⟨t190, A30, H⟩ := H
  replace H : (if t190 < 2 then (splicerlaw08_LevelSteps.j0 k a0 a1 (wrap64 ((wrap64 (Int.tdiv (Int.tmod (wrap64 (a0)) 92) 4)) + 1)) (Int.tmod (wrap64 (a0)) 4) t190 true) else (if (Int.tmod (wrap64 (a0)) 92) < 91 then ((level_Amp.f (wrap64 ((wrap64 (Int.tdiv (wrap64 ((Int.tmod (wrap64 (a0)) 92) + 1)) 4)) + 1)) (Int.tmod (wrap64 ((Int.tmod (wrap64 (a0)) 92) + 1)) 4)).bind fun t191 => (splicerlaw08_LevelSteps.j0 k a0 a1 (wrap64 ((wrap64 (Int.tdiv (Int.tmod (wrap64 (a0)) 92) 4)) + 1)) (Int.tmod (wrap64 (a0)) 4) t190 (decide (t191 < t190)))) else (splicerlaw08_LevelSteps.j0 k a0 a1 (wrap64 ((wrap64 (Int.tdiv (Int.tmod (wrap64 (a0)) 92) 4)) + 1)) (Int.tmod (wrap64 (a0)) 4) t190 false))) = some r := H
  have A3 := Aside0.mk A30
  clear A30
  have HC4 := Aside0.mk H
  clear H
  go_enter Try.func10, Try.ntmps10
  go_upto_region 4 with (first | ((with_reducible refine gate_callee (f := 32) rfl ?_); refine goesL_ (some 25) rfl rfl Try.func32 (by kernel_rfl) rfl #[.int .i64 (wrap64 ((wrap64 (Int.tdiv (Int.tmod (wrap64 (a0)) 92) 4)) + 1)), .int .i64 (Int.tmod (wrap64 (a0)) 4)] rfl (by (try simp only [List.map_toArray, List.map_cons, List.map_nil]); first | done | rfl | (simp only [List.length_drop, List.length_take]; rfl)) ?_; (with_reducible refine (level_Amp.calls (wrap64 ((wrap64 (Int.tdiv (Int.tmod (wrap64 (a0)) 92) 4)) + 1)) (Int.tmod (wrap64 (a0)) 4) t190 _ A3.out).mono ?_); rintro e w5 ⟨rfl, hb⟩; refine ⟨_, rfl, ?_⟩; have n0_ := Aside0.mk (below_step (by repeat (first | (with_reducible first | exact HB.out | apply below_alloc | apply pw_below_drewN | apply below_drew1) | exact HB.out)) hb); clear HB; have HB := n0_; clear n0_; (try clear hb); (try clear hb2); (try clear hk); (try clear hi)))
  (try simp only [Act.put, List.setIfInBounds_toArray, List.set_cons_zero, List.set_cons_succ])
  go_cut [43] (fun v43 wc => ∃ (kq : Nat) (x43_3 : Bool), v43 = .bool x43_3 ∧ Aside0 (splicerlaw08_LevelSteps.j0 kq a0 a1 (wrap64 ((wrap64 (Int.tdiv (Int.tmod (wrap64 (a0)) 92) 4)) + 1)) (Int.tmod (wrap64 (a0)) 4) t190 x43_3 = some r) ∧ Aside0 (kq ≤ k) ∧ Aside0 (Below w.heap.size w wc))
  case first =>
    have H := HC4.out
    clear HC4
    by_cases c6 : t190 < 2
    · rw [if_pos c6] at H
      have c6b0 : decide (t190 < 2) = true := decide_eq_true c6
      clear c6
      (first | rw [c6b0] | (simp only [i64_w, i32_w]; rw [c6b0]) | skip)
      have H' := Aside0.mk H
      clear H
      go_wp2
      go_meet
      case rel => exact ⟨_, (true), (by first | rfl | (simp; done) | (simp [*]; done)), H', ⟨by first | omega | exact Nat.le_refl _⟩, ⟨by repeat (first | (with_reducible first | exact HB.out | apply below_alloc | apply pw_below_drewN | apply below_drew1) | exact HB.out)⟩⟩
    · rw [if_neg c6] at H
      have c6b0 : decide (t190 < 2) = false := decide_eq_false c6
      clear c6
      (first | rw [c6b0] | (simp only [i64_w, i32_w]; rw [c6b0]) | skip)
      by_cases c7 : (Int.tmod (wrap64 (a0)) 92) < 91
      · rw [if_pos c7] at H
        have c7b0 : decide ((Int.tmod (wrap64 (a0)) 92) < 91) = true := decide_eq_true c7
        clear c7
        replace H := Option.bind_eq_some_iff.mp H
        obtain ⟨t191, A80, H⟩ := H
        replace H : (splicerlaw08_LevelSteps.j0 k a0 a1 (wrap64 ((wrap64 (Int.tdiv (Int.tmod (wrap64 (a0)) 92) 4)) + 1)) (Int.tmod (wrap64 (a0)) 4) t190 (decide (t191 < t190))) = some r := H
        have A8 := Aside0.mk A80
        clear A80
        have H' := Aside0.mk H
        clear H
        go_wp2_with (first | (go_at_call 32; (with_reducible refine (level_Amp.calls (wrap64 ((wrap64 (Int.tdiv (wrap64 ((Int.tmod (wrap64 (a0)) 92) + 1)) 4)) + 1)) (Int.tmod (wrap64 ((Int.tmod (wrap64 (a0)) 92) + 1)) 4) t191 _ A8.out).mono ?_); rintro e w9 ⟨rfl, hb⟩; have n0_ := Aside0.mk (below_step (by repeat (first | (with_reducible first | exact HB.out | apply below_alloc | apply pw_below_drewN | apply below_drew1) | exact HB.out)) hb); clear HB; have HB := n0_; clear n0_; (try clear hb); (try clear hb2); (try clear hk); (try clear hi)))
        go_meet
        case rel => exact ⟨_, (decide (t191 < t190)), (by first | rfl | (simp; done) | (simp [*]; done)), H', ⟨by first | omega | exact Nat.le_refl _⟩, ⟨by repeat (first | (with_reducible first | exact HB.out | apply below_alloc | apply pw_below_drewN | apply below_drew1) | exact HB.out)⟩⟩
      · rw [if_neg c7] at H
        have c7b0 : decide ((Int.tmod (wrap64 (a0)) 92) < 91) = false := decide_eq_false c7
        clear c7
        have H' := Aside0.mk H
        clear H
        go_wp2
        go_meet
        case rel => exact ⟨_, (false), (by first | rfl | (simp; done) | (simp [*]; done)), H', ⟨by first | omega | exact Nat.le_refl _⟩, ⟨by repeat (first | (with_reducible first | exact HB.out | apply below_alloc | apply pw_below_drewN | apply below_drew1) | exact HB.out)⟩⟩
  case rest =>
    clear HC4
    try clear c1
    try clear p2
    try clear c3
    try clear c6
    try clear c6b0
    try clear p6
    try clear c7
    try clear c7b0
    obtain ⟨kq, x43_3, rfl, HA, HJ3, HB⟩ := hcut
    cases kq with
    | zero => exact absurd HA.out (by simp [splicerlaw08_LevelSteps.j0])
    | succ kj3 =>
      have H := HA.out
      clear HA
      simp only [splicerlaw08_LevelSteps.j0] at H
      by_cases c10 : x43_3 = true
      · subst c10
        have H1 : (some false) = some r := by rw [if_pos rfl] at H; exact H
        clear H
        have H := H1
        clear H1
        obtain rfl := Option.some.inj H
        go_wp2
        go_ret
        exact ⟨by first | rfl | (simp [errW_none, errW_some] <;> rfl) | (simp [*, errW_none, errW_some] <;> rfl), by repeat (first | (with_reducible first | exact HB.out | apply below_alloc | apply pw_below_drewN | apply below_drew1) | exact HB.out)⟩
      · replace c10 := Bool.eq_false_iff.mpr c10
        subst c10
        have H1 : (if (wrap64 ((wrap64 (Int.tdiv (Int.tmod (wrap64 (a0)) 92) 4)) + 1)) < 23 then ((level_Amp.f (wrap64 ((wrap64 ((wrap64 (Int.tdiv (Int.tmod (wrap64 (a0)) 92) 4)) + 1)) + 1)) (Int.tmod (wrap64 (a0)) 4)).bind fun t192 => (if (wrap64 (t192 - (wrap64 (2 * t190)))) > 1 then (some false) else (if (wrap64 (t192 - (wrap64 (2 * t190)))) < (-1) then (some false) else (splicerlaw08_LevelSteps.j1 kj3 a0 a1)))) else (splicerlaw08_LevelSteps.j1 kj3 a0 a1)) = some r := by rw [if_neg (show ¬ (false = true) by decide)] at H; exact H
        clear H
        have H := H1
        clear H1
        have HC11 := Aside0.mk H
        clear H
        go_upto_if 45 with (fail)
        go_cut [] (fun wc => ∃ (kq : Nat), Aside0 (splicerlaw08_LevelSteps.j1 kq a0 a1 = some r) ∧ Aside0 (kq ≤ kj3) ∧ Aside0 (Below w.heap.size w wc))
        case first =>
          have H := HC11.out
          clear HC11
          by_cases c12 : (wrap64 ((wrap64 (Int.tdiv (Int.tmod (wrap64 (a0)) 92) 4)) + 1)) < 23
          · rw [if_pos c12] at H
            have c12b0 : decide ((wrap64 ((wrap64 (Int.tdiv (Int.tmod (wrap64 (a0)) 92) 4)) + 1)) < 23) = true := decide_eq_true c12
            clear c12
            (first | rw [c12b0] | (simp only [i64_w, i32_w]; rw [c12b0]) | skip)
            replace H := Option.bind_eq_some_iff.mp H
            obtain ⟨t192, A130, H⟩ := H
            replace H : (if (wrap64 (t192 - (wrap64 (2 * t190)))) > 1 then (some false) else (if (wrap64 (t192 - (wrap64 (2 * t190)))) < (-1) then (some false) else (splicerlaw08_LevelSteps.j1 kj3 a0 a1))) = some r := H
            have A13 := Aside0.mk A130
            clear A130
            by_cases c14 : (wrap64 (t192 - (wrap64 (2 * t190)))) > 1
            · rw [if_pos c14] at H
              have c14b0 : decide (1 < (wrap64 (t192 - (wrap64 (2 * t190))))) = true := decide_eq_true c14
              clear c14
              obtain rfl := Option.some.inj H
              go_wp2_with (first | ((with_reducible refine gate_callee (f := 32) rfl ?_); refine goesL_ (some 49) rfl rfl Try.func32 (by kernel_rfl) rfl #[.int .i64 (wrap64 ((wrap64 ((wrap64 (Int.tdiv (Int.tmod (wrap64 (a0)) 92) 4)) + 1)) + 1)), .int .i64 (Int.tmod (wrap64 (a0)) 4)] rfl (by (try simp only [List.map_toArray, List.map_cons, List.map_nil]); first | done | rfl | (simp only [List.length_drop, List.length_take]; rfl)) ?_; (with_reducible refine (level_Amp.calls (wrap64 ((wrap64 ((wrap64 (Int.tdiv (Int.tmod (wrap64 (a0)) 92) 4)) + 1)) + 1)) (Int.tmod (wrap64 (a0)) 4) t192 _ A13.out).mono ?_); rintro e w15 ⟨rfl, hb⟩; refine ⟨_, rfl, ?_⟩; have n0_ := Aside0.mk (below_step (by repeat (first | (with_reducible first | exact HB.out | apply below_alloc | apply pw_below_drewN | apply below_drew1) | exact HB.out)) hb); clear HB; have HB := n0_; clear n0_; (try clear hb); (try clear hb2); (try clear hk); (try clear hi)))
              go_ret
              exact ⟨by first | rfl | (simp [errW_none, errW_some] <;> rfl) | (simp [*, errW_none, errW_some] <;> rfl), by repeat (first | (with_reducible first | exact HB.out | apply below_alloc | apply pw_below_drewN | apply below_drew1) | exact HB.out)⟩
            · rw [if_neg c14] at H
              have c14b0 : decide (1 < (wrap64 (t192 - (wrap64 (2 * t190))))) = false := decide_eq_false c14
              clear c14
              by_cases c16 : (wrap64 (t192 - (wrap64 (2 * t190)))) < (-1)
              · rw [if_pos c16] at H
                have c16b0 : decide ((wrap64 (t192 - (wrap64 (2 * t190)))) < (-1)) = true := decide_eq_true c16
                clear c16
                obtain rfl := Option.some.inj H
                go_wp2_with (first | ((with_reducible refine gate_callee (f := 32) rfl ?_); refine goesL_ (some 49) rfl rfl Try.func32 (by kernel_rfl) rfl #[.int .i64 (wrap64 ((wrap64 ((wrap64 (Int.tdiv (Int.tmod (wrap64 (a0)) 92) 4)) + 1)) + 1)), .int .i64 (Int.tmod (wrap64 (a0)) 4)] rfl (by (try simp only [List.map_toArray, List.map_cons, List.map_nil]); first | done | rfl | (simp only [List.length_drop, List.length_take]; rfl)) ?_; (with_reducible refine (level_Amp.calls (wrap64 ((wrap64 ((wrap64 (Int.tdiv (Int.tmod (wrap64 (a0)) 92) 4)) + 1)) + 1)) (Int.tmod (wrap64 (a0)) 4) t192 _ A13.out).mono ?_); rintro e w17 ⟨rfl, hb⟩; refine ⟨_, rfl, ?_⟩; have n0_ := Aside0.mk (below_step (by repeat (first | (with_reducible first | exact HB.out | apply below_alloc | apply pw_below_drewN | apply below_drew1) | exact HB.out)) hb); clear HB; have HB := n0_; clear n0_; (try clear hb); (try clear hb2); (try clear hk); (try clear hi)))
                go_ret
                exact ⟨by first | rfl | (simp [errW_none, errW_some] <;> rfl) | (simp [*, errW_none, errW_some] <;> rfl), by repeat (first | (with_reducible first | exact HB.out | apply below_alloc | apply pw_below_drewN | apply below_drew1) | exact HB.out)⟩
              · rw [if_neg c16] at H
                have c16b0 : decide ((wrap64 (t192 - (wrap64 (2 * t190)))) < (-1)) = false := decide_eq_false c16
                clear c16
                have H' := Aside0.mk H
                clear H
                go_wp2_with (first | ((with_reducible refine gate_callee (f := 32) rfl ?_); refine goesL_ (some 49) rfl rfl Try.func32 (by kernel_rfl) rfl #[.int .i64 (wrap64 ((wrap64 ((wrap64 (Int.tdiv (Int.tmod (wrap64 (a0)) 92) 4)) + 1)) + 1)), .int .i64 (Int.tmod (wrap64 (a0)) 4)] rfl (by (try simp only [List.map_toArray, List.map_cons, List.map_nil]); first | done | rfl | (simp only [List.length_drop, List.length_take]; rfl)) ?_; (with_reducible refine (level_Amp.calls (wrap64 ((wrap64 ((wrap64 (Int.tdiv (Int.tmod (wrap64 (a0)) 92) 4)) + 1)) + 1)) (Int.tmod (wrap64 (a0)) 4) t192 _ A13.out).mono ?_); rintro e w18 ⟨rfl, hb⟩; refine ⟨_, rfl, ?_⟩; have n0_ := Aside0.mk (below_step (by repeat (first | (with_reducible first | exact HB.out | apply below_alloc | apply pw_below_drewN | apply below_drew1) | exact HB.out)) hb); clear HB; have HB := n0_; clear n0_; (try clear hb); (try clear hb2); (try clear hk); (try clear hi)))
                go_meet
                case rel => exact ⟨_, H', ⟨by have := HJ3.out; first | omega | exact Nat.le_refl _⟩, ⟨by repeat (first | (with_reducible first | exact HB.out | apply below_alloc | apply pw_below_drewN | apply below_drew1) | exact HB.out)⟩⟩
          · rw [if_neg c12] at H
            have c12b0 : decide ((wrap64 ((wrap64 (Int.tdiv (Int.tmod (wrap64 (a0)) 92) 4)) + 1)) < 23) = false := decide_eq_false c12
            clear c12
            (first | rw [c12b0] | (simp only [i64_w, i32_w]; rw [c12b0]) | skip)
            have H' := Aside0.mk H
            clear H
            go_wp2
            go_meet
            case rel => exact ⟨_, H', ⟨by have := HJ3.out; first | omega | exact Nat.le_refl _⟩, ⟨by repeat (first | (with_reducible first | exact HB.out | apply below_alloc | apply pw_below_drewN | apply below_drew1) | exact HB.out)⟩⟩
        case rest =>
          clear HC11
          try clear c1
          try clear p2
          try clear c3
          try clear c6
          try clear c6b0
          try clear p6
          try clear c7
          try clear c7b0
          try clear c10
          try clear c12
          try clear c12b0
          try clear c14
          try clear c14b0
          try clear c16
          try clear c16b0
          try clear p2
          try clear p6
          obtain ⟨kq, HA, HJ10, HB⟩ := hcut
          cases kq with
          | zero => exact absurd HA.out (by simp [splicerlaw08_LevelSteps.j1])
          | succ kj10 =>
            have H := HA.out
            clear HA
            simp only [splicerlaw08_LevelSteps.j1] at H
            replace H := Option.bind_eq_some_iff.mp H
            obtain ⟨t193, A190, H⟩ := H
            replace H : ((level_Gain.f (wrap64 ((Int.tmod (wrap64 (a0)) 93) - 64))).bind fun t194 => (if (wrap64 (t193 - (wrap64 (2 * t194)))) > 1 then (splicerlaw08_LevelSteps.j2 kj10 a1 true) else (if (wrap64 (t193 - (wrap64 (2 * t194)))) < (-1) then (splicerlaw08_LevelSteps.j2 kj10 a1 true) else ((level_Gain.f (wrap64 ((wrap64 ((Int.tmod (wrap64 (a0)) 93) - 64)) + 1))).bind fun t195 => ((level_Gain.f (wrap64 ((Int.tmod (wrap64 (a0)) 93) - 64))).bind fun t196 => (if t195 < t196 then (splicerlaw08_LevelSteps.j2 kj10 a1 true) else (splicerlaw08_LevelSteps.j2 kj10 a1 (decide (t196 < 1))))))))) = some r := H
            have A19 := Aside0.mk A190
            clear A190
            replace H := Option.bind_eq_some_iff.mp H
            obtain ⟨t194, A200, H⟩ := H
            replace H : (if (wrap64 (t193 - (wrap64 (2 * t194)))) > 1 then (splicerlaw08_LevelSteps.j2 kj10 a1 true) else (if (wrap64 (t193 - (wrap64 (2 * t194)))) < (-1) then (splicerlaw08_LevelSteps.j2 kj10 a1 true) else ((level_Gain.f (wrap64 ((wrap64 ((Int.tmod (wrap64 (a0)) 93) - 64)) + 1))).bind fun t195 => ((level_Gain.f (wrap64 ((Int.tmod (wrap64 (a0)) 93) - 64))).bind fun t196 => (if t195 < t196 then (splicerlaw08_LevelSteps.j2 kj10 a1 true) else (splicerlaw08_LevelSteps.j2 kj10 a1 (decide (t196 < 1)))))))) = some r := H
            have A20 := Aside0.mk A200
            clear A200
            have HC21 := Aside0.mk H
            clear H
            go_upto_region 12 with (first | ((with_reducible refine gate_callee (f := 34) rfl ?_); refine goesL_ (some 65) rfl rfl Try.func34 (by kernel_rfl) rfl #[.int .i64 (wrap64 ((wrap64 ((Int.tmod (wrap64 (a0)) 93) - 64)) + 4))] rfl (by (try simp only [List.map_toArray, List.map_cons, List.map_nil]); first | done | rfl | (simp only [List.length_drop, List.length_take]; rfl)) ?_; (with_reducible refine (level_Gain.calls (wrap64 ((wrap64 ((Int.tmod (wrap64 (a0)) 93) - 64)) + 4)) t193 _ A19.out).mono ?_); rintro e w22 ⟨rfl, hb⟩; refine ⟨_, rfl, ?_⟩; have n0_ := Aside0.mk (below_step (by repeat (first | (with_reducible first | exact HB.out | apply below_alloc | apply pw_below_drewN | apply below_drew1) | exact HB.out)) hb); clear HB; have HB := n0_; clear n0_; (try clear hb); (try clear hb2); (try clear hk); (try clear hi)) | ((with_reducible refine gate_callee (f := 34) rfl ?_); refine goesL_ (some 67) rfl rfl Try.func34 (by kernel_rfl) rfl #[.int .i64 (wrap64 ((Int.tmod (wrap64 (a0)) 93) - 64))] rfl (by (try simp only [List.map_toArray, List.map_cons, List.map_nil]); first | done | rfl | (simp only [List.length_drop, List.length_take]; rfl)) ?_; (with_reducible refine (level_Gain.calls (wrap64 ((Int.tmod (wrap64 (a0)) 93) - 64)) t194 _ A20.out).mono ?_); rintro e w23 ⟨rfl, hb⟩; refine ⟨_, rfl, ?_⟩; have n0_ := Aside0.mk (below_step (by repeat (first | (with_reducible first | exact HB.out | apply below_alloc | apply pw_below_drewN | apply below_drew1) | exact HB.out)) hb); clear HB; have HB := n0_; clear n0_; (try clear hb); (try clear hb2); (try clear hk); (try clear hi)))
            (try simp only [Act.put, List.setIfInBounds_toArray, List.set_cons_zero, List.set_cons_succ])
            go_cut [88] (fun v88 wc => ∃ (kq : Nat) (x88_20 : Bool), v88 = .bool x88_20 ∧ Aside0 (splicerlaw08_LevelSteps.j2 kq a1 x88_20 = some r) ∧ Aside0 (kq ≤ kj10) ∧ Aside0 (Below w.heap.size w wc))
            case first =>
              have H := HC21.out
              clear HC21
              by_cases c24 : (wrap64 (t193 - (wrap64 (2 * t194)))) > 1
              · rw [if_pos c24] at H
                have c24b0 : decide (1 < (wrap64 (t193 - (wrap64 (2 * t194))))) = true := decide_eq_true c24
                clear c24
                (first | rw [c24b0] | (simp only [i64_w, i32_w]; rw [c24b0]) | skip)
                have H' := Aside0.mk H
                clear H
                go_wp2
                go_meet
                case rel => exact ⟨_, (true), (by first | rfl | (simp; done) | (simp [*]; done)), H', ⟨by have := HJ3.out; have := HJ10.out; first | omega | exact Nat.le_refl _⟩, ⟨by repeat (first | (with_reducible first | exact HB.out | apply below_alloc | apply pw_below_drewN | apply below_drew1) | exact HB.out)⟩⟩
              · rw [if_neg c24] at H
                have c24b0 : decide (1 < (wrap64 (t193 - (wrap64 (2 * t194))))) = false := decide_eq_false c24
                clear c24
                (first | rw [c24b0] | (simp only [i64_w, i32_w]; rw [c24b0]) | skip)
                by_cases c25 : (wrap64 (t193 - (wrap64 (2 * t194)))) < (-1)
                · rw [if_pos c25] at H
                  have c25b0 : decide ((wrap64 (t193 - (wrap64 (2 * t194)))) < (-1)) = true := decide_eq_true c25
                  clear c25
                  have H' := Aside0.mk H
                  clear H
                  go_wp2
                  go_meet
                  case rel => exact ⟨_, (true), (by first | rfl | (simp; done) | (simp [*]; done)), H', ⟨by have := HJ3.out; have := HJ10.out; first | omega | exact Nat.le_refl _⟩, ⟨by repeat (first | (with_reducible first | exact HB.out | apply below_alloc | apply pw_below_drewN | apply below_drew1) | exact HB.out)⟩⟩
                · rw [if_neg c25] at H
                  have c25b0 : decide ((wrap64 (t193 - (wrap64 (2 * t194)))) < (-1)) = false := decide_eq_false c25
                  clear c25
                  replace H := Option.bind_eq_some_iff.mp H
                  obtain ⟨t195, A260, H⟩ := H
                  replace H : ((level_Gain.f (wrap64 ((Int.tmod (wrap64 (a0)) 93) - 64))).bind fun t196 => (if t195 < t196 then (splicerlaw08_LevelSteps.j2 kj10 a1 true) else (splicerlaw08_LevelSteps.j2 kj10 a1 (decide (t196 < 1))))) = some r := H
                  have A26 := Aside0.mk A260
                  clear A260
                  replace H := Option.bind_eq_some_iff.mp H
                  obtain ⟨t196, A270, H⟩ := H
                  replace H : (if t195 < t196 then (splicerlaw08_LevelSteps.j2 kj10 a1 true) else (splicerlaw08_LevelSteps.j2 kj10 a1 (decide (t196 < 1)))) = some r := H
                  have A27 := Aside0.mk A270
                  clear A270
                  by_cases c28 : t195 < t196
                  · rw [if_pos c28] at H
                    have c28b0 : decide (t195 < t196) = true := decide_eq_true c28
                    clear c28
                    have H' := Aside0.mk H
                    clear H
                    go_wp2_with (first | (go_at_call 34; (with_reducible refine (level_Gain.calls (wrap64 ((wrap64 ((Int.tmod (wrap64 (a0)) 93) - 64)) + 1)) t195 _ A26.out).mono ?_); rintro e w29 ⟨rfl, hb⟩; have n0_ := Aside0.mk (below_step (by repeat (first | (with_reducible first | exact HB.out | apply below_alloc | apply pw_below_drewN | apply below_drew1) | exact HB.out)) hb); clear HB; have HB := n0_; clear n0_; (try clear hb); (try clear hb2); (try clear hk); (try clear hi)) | (go_at_call 34; (with_reducible refine (level_Gain.calls (wrap64 ((Int.tmod (wrap64 (a0)) 93) - 64)) t196 _ A27.out).mono ?_); rintro e w30 ⟨rfl, hb⟩; have n0_ := Aside0.mk (below_step (by repeat (first | (with_reducible first | exact HB.out | apply below_alloc | apply pw_below_drewN | apply below_drew1) | exact HB.out)) hb); clear HB; have HB := n0_; clear n0_; (try clear hb); (try clear hb2); (try clear hk); (try clear hi)))
                    go_meet
                    case rel => exact ⟨_, (true), (by first | rfl | (simp; done) | (simp [*]; done)), H', ⟨by have := HJ3.out; have := HJ10.out; first | omega | exact Nat.le_refl _⟩, ⟨by repeat (first | (with_reducible first | exact HB.out | apply below_alloc | apply pw_below_drewN | apply below_drew1) | exact HB.out)⟩⟩
                  · rw [if_neg c28] at H
                    have c28b0 : decide (t195 < t196) = false := decide_eq_false c28
                    clear c28
                    have H' := Aside0.mk H
                    clear H
                    go_wp2_with (first | (go_at_call 34; (with_reducible refine (level_Gain.calls (wrap64 ((wrap64 ((Int.tmod (wrap64 (a0)) 93) - 64)) + 1)) t195 _ A26.out).mono ?_); rintro e w31 ⟨rfl, hb⟩; have n0_ := Aside0.mk (below_step (by repeat (first | (with_reducible first | exact HB.out | apply below_alloc | apply pw_below_drewN | apply below_drew1) | exact HB.out)) hb); clear HB; have HB := n0_; clear n0_; (try clear hb); (try clear hb2); (try clear hk); (try clear hi)) | (go_at_call 34; (with_reducible refine (level_Gain.calls (wrap64 ((Int.tmod (wrap64 (a0)) 93) - 64)) t196 _ A27.out).mono ?_); rintro e w32 ⟨rfl, hb⟩; have n0_ := Aside0.mk (below_step (by repeat (first | (with_reducible first | exact HB.out | apply below_alloc | apply pw_below_drewN | apply below_drew1) | exact HB.out)) hb); clear HB; have HB := n0_; clear n0_; (try clear hb); (try clear hb2); (try clear hk); (try clear hi)))
                    go_meet
                    case rel => exact ⟨_, (decide (t196 < 1)), (by first | rfl | (simp; done) | (simp [*]; done)), H', ⟨by have := HJ3.out; have := HJ10.out; first | omega | exact Nat.le_refl _⟩, ⟨by repeat (first | (with_reducible first | exact HB.out | apply below_alloc | apply pw_below_drewN | apply below_drew1) | exact HB.out)⟩⟩
            case rest =>
              clear HC21
              try clear c1
              try clear c2
              try clear p2
              try clear c3
              try clear c6
              try clear c6b0
              try clear p6
              try clear c7
              try clear c7b0
              try clear c10
              try clear c12
              try clear c12b0
              try clear c14
              try clear c14b0
              try clear c16
              try clear c16b0
              try clear c24
              try clear c24b0
              try clear c25
              try clear c25b0
              try clear c28
              try clear c28b0
              try clear c32
              try clear p2
              try clear p6
              obtain ⟨kq, x88_20, rfl, HA, HJ20, HB⟩ := hcut
              cases kq with
              | zero => exact absurd HA.out (by simp [splicerlaw08_LevelSteps.j2])
              | succ kj20 =>
                have H := HA.out
                clear HA
                simp only [splicerlaw08_LevelSteps.j2] at H
                by_cases c33 : x88_20 = true
                · subst c33
                  have H1 : (some false) = some r := by rw [if_pos rfl] at H; exact H
                  clear H
                  have H := H1
                  clear H1
                  obtain rfl := Option.some.inj H
                  go_wp2
                  go_ret
                  exact ⟨by first | rfl | (simp [errW_none, errW_some] <;> rfl) | (simp [*, errW_none, errW_some] <;> rfl), by repeat (first | (with_reducible first | exact HB.out | apply below_alloc | apply pw_below_drewN | apply below_drew1) | exact HB.out)⟩
                · replace c33 := Bool.eq_false_iff.mpr c33
                  subst c33
                  have H1 : (if a1 < 2 then (splicerlaw08_LevelSteps.j3 kj20 a1 true) else (splicerlaw08_LevelSteps.j3 kj20 a1 (decide (a1 > 1099511627776)))) = some r := by rw [if_neg (show ¬ (false = true) by decide)] at H; exact H
                  clear H
                  have H := H1
                  clear H1
                  have HC34 := Aside0.mk H
                  clear H
                  go_upto_region 14 with (fail)
                  go_cut [94] (fun v94 wc => ∃ (kq : Nat) (x94_33 : Bool), v94 = .bool x94_33 ∧ Aside0 (splicerlaw08_LevelSteps.j3 kq a1 x94_33 = some r) ∧ Aside0 (kq ≤ kj20) ∧ Aside0 (Below w.heap.size w wc))
                  case first =>
                    have H := HC34.out
                    clear HC34
                    by_cases c35 : a1 < 2
                    · rw [if_pos c35] at H
                      have c35b0 : decide (a1 < 2) = true := decide_eq_true c35
                      clear c35
                      (first | rw [c35b0] | (simp only [i64_w, i32_w]; rw [c35b0]) | skip)
                      have H' := Aside0.mk H
                      clear H
                      go_wp2
                      go_meet
                      case rel => exact ⟨_, (true), (by first | rfl | (simp; done) | (simp [*]; done)), H', ⟨by have := HJ3.out; have := HJ10.out; have := HJ20.out; first | omega | exact Nat.le_refl _⟩, ⟨by repeat (first | (with_reducible first | exact HB.out | apply below_alloc | apply pw_below_drewN | apply below_drew1) | exact HB.out)⟩⟩
                    · rw [if_neg c35] at H
                      have c35b0 : decide (a1 < 2) = false := decide_eq_false c35
                      clear c35
                      (first | rw [c35b0] | (simp only [i64_w, i32_w]; rw [c35b0]) | skip)
                      have H' := Aside0.mk H
                      clear H
                      go_wp2
                      go_meet
                      case rel => exact ⟨_, (decide (a1 > 1099511627776)), (by first | rfl | (simp; done) | (simp [*]; done)), H', ⟨by have := HJ3.out; have := HJ10.out; have := HJ20.out; first | omega | exact Nat.le_refl _⟩, ⟨by repeat (first | (with_reducible first | exact HB.out | apply below_alloc | apply pw_below_drewN | apply below_drew1) | exact HB.out)⟩⟩
                  case rest =>
                    clear HC34
                    try clear c1
                    try clear c2
                    try clear p2
                    try clear c3
                    try clear c6
                    try clear c6b0
                    try clear p6
                    try clear c7
                    try clear c7b0
                    try clear c10
                    try clear c12
                    try clear c12b0
                    try clear c14
                    try clear c14b0
                    try clear c16
                    try clear c16b0
                    try clear c24
                    try clear c24b0
                    try clear c25
                    try clear c25b0
                    try clear c28
                    try clear c28b0
                    try clear c32
                    try clear c33
                    try clear c34
                    try clear c35
                    try clear c35b0
                    try clear p2
                    try clear p6
                    obtain ⟨kq, x94_33, rfl, HA, HJ33, HB⟩ := hcut
                    cases kq with
                    | zero => exact absurd HA.out (by simp [splicerlaw08_LevelSteps.j3])
                    | succ kj33 =>
                      have H := HA.out
                      clear HA
                      simp only [splicerlaw08_LevelSteps.j3] at H
                      by_cases c36 : x94_33 = true
                      · subst c36
                        have H1 : ((splicerlaw08_awake.f kj33).bind fun t197 => (some t197)) = some r := by rw [if_pos rfl] at H; exact H
                        clear H
                        have H := H1
                        clear H1
                        replace H := Option.bind_eq_some_iff.mp H
                        obtain ⟨t197, A370, H⟩ := H
                        replace H : (some t197) = some r := H
                        have A37 := Aside0.mk A370
                        clear A370
                        obtain rfl := Option.some.inj H
                        go_wp2_with (first | ((with_reducible refine gate_callee (f := 38) rfl ?_); refine goesL_ (some 95) rfl rfl Try.func38 (by kernel_rfl) rfl #[] rfl (by (try simp only [List.map_toArray, List.map_cons, List.map_nil]); first | done | rfl | (simp only [List.length_drop, List.length_take]; rfl)) ?_; (with_reducible refine (splicerlaw08_awake.calls kj33  t197 _ A37.out).mono ?_); rintro e w38 ⟨rfl, hb⟩; refine ⟨_, rfl, ?_⟩; have n0_ := Aside0.mk (below_step (by repeat (first | (with_reducible first | exact HB.out | apply below_alloc | apply pw_below_drewN | apply below_drew1) | exact HB.out)) hb); clear HB; have HB := n0_; clear n0_; (try clear hb); (try clear hb2); (try clear hk); (try clear hi)))
                        go_ret
                        exact ⟨by first | rfl | (simp [errW_none, errW_some] <;> rfl) | (simp [*, errW_none, errW_some] <;> rfl), by repeat (first | (with_reducible first | exact HB.out | apply below_alloc | apply pw_below_drewN | apply below_drew1) | exact HB.out)⟩
                      · replace c36 := Bool.eq_false_iff.mpr c36
                        subst c36
                        have H1 : ((level_Find.f kj33 a1).bind fun bt198 => (if bt198.1 < 1 then (splicerlaw08_LevelSteps.j4 kj33 a1 bt198.1 bt198.2 true) else ((level_Amp.f bt198.1 bt198.2).bind fun t200 => (splicerlaw08_LevelSteps.j4 kj33 a1 bt198.1 bt198.2 (decide (t200 > a1)))))) = some r := by rw [if_neg (show ¬ (false = true) by decide)] at H; exact H
                        clear H
                        have H := H1
                        clear H1
                        replace H := Option.bind_eq_some_iff.mp H
                        obtain ⟨⟨t198, t199⟩, A390, H⟩ := H
                        replace H : (if t198 < 1 then (splicerlaw08_LevelSteps.j4 kj33 a1 t198 t199 true) else ((level_Amp.f t198 t199).bind fun t200 => (splicerlaw08_LevelSteps.j4 kj33 a1 t198 t199 (decide (t200 > a1))))) = some r := H
                        have A39 := Aside0.mk A390
                        clear A390
                        have HC40 := Aside0.mk H
                        clear H
                        go_upto_region 17 with (first | ((with_reducible refine gate_callee (f := 30) rfl ?_); refine goesL_ (some 98) rfl rfl Try.func30 (by kernel_rfl) rfl #[.int .i64 a1] rfl (by (try simp only [List.map_toArray, List.map_cons, List.map_nil]); first | done | rfl | (simp only [List.length_drop, List.length_take]; rfl)) ?_; (with_reducible refine (level_Find.calls kj33 a1 t198 t199 _ A39.out).mono ?_); rintro e w41 ⟨rfl, hb⟩; refine ⟨_, rfl, ?_⟩; have n0_ := Aside0.mk (below_step (by repeat (first | (with_reducible first | exact HB.out | apply below_alloc | apply pw_below_drewN | apply below_drew1) | exact HB.out)) hb); clear HB; have HB := n0_; clear n0_; (try clear hb); (try clear hb2); (try clear hk); (try clear hi)))
                        (try simp only [Act.put, List.setIfInBounds_toArray, List.set_cons_zero, List.set_cons_succ])
                        go_cut [109] (fun v109 wc => ∃ (kq : Nat) (x109_39 : Bool), v109 = .bool x109_39 ∧ Aside0 (splicerlaw08_LevelSteps.j4 kq a1 t198 t199 x109_39 = some r) ∧ Aside0 (kq ≤ kj33) ∧ Aside0 (Below w.heap.size w wc))
                        case first =>
                          have H := HC40.out
                          clear HC40
                          by_cases c42 : t198 < 1
                          · rw [if_pos c42] at H
                            have c42b0 : decide (t198 < 1) = true := decide_eq_true c42
                            clear c42
                            (first | rw [c42b0] | (simp only [i64_w, i32_w]; rw [c42b0]) | skip)
                            have H' := Aside0.mk H
                            clear H
                            go_wp2
                            go_meet
                            case rel => exact ⟨_, (true), (by first | rfl | (simp; done) | (simp [*]; done)), H', ⟨by have := HJ3.out; have := HJ10.out; have := HJ20.out; have := HJ33.out; first | omega | exact Nat.le_refl _⟩, ⟨by repeat (first | (with_reducible first | exact HB.out | apply below_alloc | apply pw_below_drewN | apply below_drew1) | exact HB.out)⟩⟩
                          · rw [if_neg c42] at H
                            have c42b0 : decide (t198 < 1) = false := decide_eq_false c42
                            clear c42
                            (first | rw [c42b0] | (simp only [i64_w, i32_w]; rw [c42b0]) | skip)
                            replace H := Option.bind_eq_some_iff.mp H
                            obtain ⟨t200, A430, H⟩ := H
                            replace H : (splicerlaw08_LevelSteps.j4 kj33 a1 t198 t199 (decide (t200 > a1))) = some r := H
                            have A43 := Aside0.mk A430
                            clear A430
                            have H' := Aside0.mk H
                            clear H
                            go_wp2_with (first | (go_at_call 32; (with_reducible refine (level_Amp.calls t198 t199 t200 _ A43.out).mono ?_); rintro e w44 ⟨rfl, hb⟩; have n0_ := Aside0.mk (below_step (by repeat (first | (with_reducible first | exact HB.out | apply below_alloc | apply pw_below_drewN | apply below_drew1) | exact HB.out)) hb); clear HB; have HB := n0_; clear n0_; (try clear hb); (try clear hb2); (try clear hk); (try clear hi)))
                            go_meet
                            case rel => exact ⟨_, (decide (t200 > a1)), (by first | rfl | (simp; done) | (simp [*]; done)), H', ⟨by have := HJ3.out; have := HJ10.out; have := HJ20.out; have := HJ33.out; first | omega | exact Nat.le_refl _⟩, ⟨by repeat (first | (with_reducible first | exact HB.out | apply below_alloc | apply pw_below_drewN | apply below_drew1) | exact HB.out)⟩⟩
                        case rest =>
                          clear HC40
                          try clear c1
                          try clear c2
                          try clear p2
                          try clear c3
                          try clear c4
                          try clear c6
                          try clear c6b0
                          try clear p6
                          try clear c7
                          try clear c7b0
                          try clear c10
                          try clear c12
                          try clear c12b0
                          try clear c14
                          try clear c14b0
                          try clear c16
                          try clear c16b0
                          try clear c24
                          try clear c24b0
                          try clear c25
                          try clear c25b0
                          try clear c28
                          try clear c28b0
                          try clear c30
                          try clear c32
                          try clear c33
                          try clear c34
                          try clear c35
                          try clear c35b0
                          try clear c36
                          try clear c38
                          try clear c42
                          try clear c42b0
                          try clear p2
                          try clear p6
                          obtain ⟨kq, x109_39, rfl, HA, HJ39, HB⟩ := hcut
                          cases kq with
                          | zero => exact absurd HA.out (by simp [splicerlaw08_LevelSteps.j4])
                          | succ kj39 =>
                            have H := HA.out
                            clear HA
                            simp only [splicerlaw08_LevelSteps.j4] at H
                            by_cases c45 : x109_39 = true
                            · subst c45
                              have H1 : (some false) = some r := by rw [if_pos rfl] at H; exact H
                              clear H
                              have H := H1
                              clear H1
                              obtain rfl := Option.some.inj H
                              go_wp2
                              go_ret
                              exact ⟨by first | rfl | (simp [errW_none, errW_some] <;> rfl) | (simp [*, errW_none, errW_some] <;> rfl), by repeat (first | (with_reducible first | exact HB.out | apply below_alloc | apply pw_below_drewN | apply below_drew1) | exact HB.out)⟩
                            · replace c45 := Bool.eq_false_iff.mpr c45
                              subst c45
                              have H1 : (if (wrap64 ((wrap64 ((wrap64 (4 * t198)) + t199)) + 1)) ≥ 96 then ((splicerlaw08_awake.f kj39).bind fun t201 => (some t201)) else ((level_Amp.f (wrap64 (Int.tdiv (wrap64 ((wrap64 ((wrap64 (4 * t198)) + t199)) + 1)) 4)) (Int.tmod (wrap64 ((wrap64 ((wrap64 (4 * t198)) + t199)) + 1)) 4)).bind fun t202 => (if t202 > a1 then ((splicerlaw08_awake.f kj39).bind fun t203 => (some t203)) else (some false)))) = some r := by rw [if_neg (show ¬ (false = true) by decide)] at H; exact H
                              clear H
                              have H := H1
                              clear H1
                              by_cases c46 : (wrap64 ((wrap64 ((wrap64 (4 * t198)) + t199)) + 1)) ≥ 96
                              · rw [if_pos c46] at H
                                have c46b0 : decide (96 ≤ (wrap64 ((wrap64 ((wrap64 (4 * t198)) + t199)) + 1))) = true := decide_eq_true c46
                                clear c46
                                replace H := Option.bind_eq_some_iff.mp H
                                obtain ⟨t201, A470, H⟩ := H
                                replace H : (some t201) = some r := H
                                have A47 := Aside0.mk A470
                                clear A470
                                obtain rfl := Option.some.inj H
                                go_wp2_with (first | (go_at_call 38; (with_reducible refine (splicerlaw08_awake.calls kj39  t201 _ A47.out).mono ?_); rintro e w48 ⟨rfl, hb⟩; have n0_ := Aside0.mk (below_step (by repeat (first | (with_reducible first | exact HB.out | apply below_alloc | apply pw_below_drewN | apply below_drew1) | exact HB.out)) hb); clear HB; have HB := n0_; clear n0_; (try clear hb); (try clear hb2); (try clear hk); (try clear hi)))
                                go_ret
                                exact ⟨by first | rfl | (simp [errW_none, errW_some] <;> rfl) | (simp [*, errW_none, errW_some] <;> rfl), by repeat (first | (with_reducible first | exact HB.out | apply below_alloc | apply pw_below_drewN | apply below_drew1) | exact HB.out)⟩
                              · rw [if_neg c46] at H
                                have c46b0 : decide (96 ≤ (wrap64 ((wrap64 ((wrap64 (4 * t198)) + t199)) + 1))) = false := decide_eq_false c46
                                clear c46
                                replace H := Option.bind_eq_some_iff.mp H
                                obtain ⟨t202, A490, H⟩ := H
                                replace H : (if t202 > a1 then ((splicerlaw08_awake.f kj39).bind fun t203 => (some t203)) else (some false)) = some r := H
                                have A49 := Aside0.mk A490
                                clear A490
                                by_cases c50 : t202 > a1
                                · rw [if_pos c50] at H
                                  have c50b0 : decide (a1 < t202) = true := decide_eq_true c50
                                  clear c50
                                  replace H := Option.bind_eq_some_iff.mp H
                                  obtain ⟨t203, A510, H⟩ := H
                                  replace H : (some t203) = some r := H
                                  have A51 := Aside0.mk A510
                                  clear A510
                                  obtain rfl := Option.some.inj H
                                  go_wp2_with (first | (go_at_call 32; (with_reducible refine (level_Amp.calls (wrap64 (Int.tdiv (wrap64 ((wrap64 ((wrap64 (4 * t198)) + t199)) + 1)) 4)) (Int.tmod (wrap64 ((wrap64 ((wrap64 (4 * t198)) + t199)) + 1)) 4) t202 _ A49.out).mono ?_); rintro e w52 ⟨rfl, hb⟩; have n0_ := Aside0.mk (below_step (by repeat (first | (with_reducible first | exact HB.out | apply below_alloc | apply pw_below_drewN | apply below_drew1) | exact HB.out)) hb); clear HB; have HB := n0_; clear n0_; (try clear hb); (try clear hb2); (try clear hk); (try clear hi)) | (go_at_call 38; (with_reducible refine (splicerlaw08_awake.calls kj39  t203 _ A51.out).mono ?_); rintro e w53 ⟨rfl, hb⟩; have n0_ := Aside0.mk (below_step (by repeat (first | (with_reducible first | exact HB.out | apply below_alloc | apply pw_below_drewN | apply below_drew1) | exact HB.out)) hb); clear HB; have HB := n0_; clear n0_; (try clear hb); (try clear hb2); (try clear hk); (try clear hi)))
                                  go_ret
                                  exact ⟨by first | rfl | (simp [errW_none, errW_some] <;> rfl) | (simp [*, errW_none, errW_some] <;> rfl), by repeat (first | (with_reducible first | exact HB.out | apply below_alloc | apply pw_below_drewN | apply below_drew1) | exact HB.out)⟩
                                · rw [if_neg c50] at H
                                  have c50b0 : decide (a1 < t202) = false := decide_eq_false c50
                                  clear c50
                                  obtain rfl := Option.some.inj H
                                  go_wp2_with (first | (go_at_call 32; (with_reducible refine (level_Amp.calls (wrap64 (Int.tdiv (wrap64 ((wrap64 ((wrap64 (4 * t198)) + t199)) + 1)) 4)) (Int.tmod (wrap64 ((wrap64 ((wrap64 (4 * t198)) + t199)) + 1)) 4) t202 _ A49.out).mono ?_); rintro e w54 ⟨rfl, hb⟩; have n0_ := Aside0.mk (below_step (by repeat (first | (with_reducible first | exact HB.out | apply below_alloc | apply pw_below_drewN | apply below_drew1) | exact HB.out)) hb); clear HB; have HB := n0_; clear n0_; (try clear hb); (try clear hb2); (try clear hk); (try clear hi)))
                                  go_ret
                                  exact ⟨by first | rfl | (simp [errW_none, errW_some] <;> rfl) | (simp [*, errW_none, errW_some] <;> rfl), by repeat (first | (with_reducible first | exact HB.out | apply below_alloc | apply pw_below_drewN | apply below_drew1) | exact HB.out)⟩

/-- THE ONE PURE STATEMENT of splicerlaw08_LevelSteps: yours. -/
def splicerlaw08_LevelSteps.Pure : Prop := ∀ (a0 : Int) (a1 : Int), (Lit.int .u8 a0).wf = true → (Lit.int .i64 a1).wf = true → ∃ k, splicerlaw08_LevelSteps.f k a0 a1 = some true
theorem splicerlaw08_LevelSteps.walk (P : splicerlaw08_LevelSteps.Pure) (a0 : Int) (a1 : Int) (w : World) (w0 : (Lit.int .u8 a0).wf = true) (w1 : (Lit.int .i64 a1).wf = true) :
    Calls Try.prog 10 #[.int .u8 a0, .int .i64 a1] w fun e w' => e = .returned (.bool true) ∧ Below w.heap.size w w' := by
  obtain ⟨k, h⟩ := P a0 a1 w0 w1
  refine (splicerlaw08_LevelSteps.calls k a0 a1 true w h).mono ?_
  rintro e w' ⟨rfl, hd⟩
  exact ⟨rfl, hd⟩

end Go.Proofs.Ytkidbmhmjoogiaa.S
