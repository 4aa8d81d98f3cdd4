-- Written for this claim by a program of the session (myprint.py), out of the translation's own print; Lean checks it.
import Derived.Test.YtaoodgijapiipaaSx0
import Derived.Test.YtaoodgijapiipaaSx6
import Derived.Test.YtaoodgijapiipaaSx9
namespace Go.Proofs.Ytaoodgijapiipaa.S
open Go.RowKit Go.Proofs.YtaoodgijapiipaaW.PrintWords Go.Proofs.YtaoodgijapiipaaW.PrintLast Go.Proofs.YtaoodgijapiipaaW.PrintMore
attribute [local go_sem] max2_int min2_int max_two min_two max_three min_three max_four min_four   -- for this text's walks alone
set_option linter.unusedVariables false
set_option linter.unusedSimpArgs false

/-! ### splicerlaw25_GainGoes: function 9 -/
mutual
def splicerlaw25_GainGoes.j0 : Nat → Int → Int → Int → Int → Int → Bool → Option (Bool)
  | 0, _, _, _, _, _, _ => none
  | k + 1, x0, x1, x2, x3, x4, x38 => if x38 = true then ((splicerlaw25_awake.f).bind fun t216 => (some t216)) else ((gain_Fade.f k (wrap64 ((Int.tmod (wrap64 (x0)) 97) - 64)) (wrap64 ((Int.tmod (wrap64 (x1)) 97) - 64)) x2 (mn x3 x4)).bind fun t217 => ((gain_Fade.f k (wrap64 ((Int.tmod (wrap64 (x0)) 97) - 64)) (wrap64 ((Int.tmod (wrap64 (x1)) 97) - 64)) x2 (mx x3 x4)).bind fun t218 => ((gain_Fade.f k (wrap64 ((Int.tmod (wrap64 (x0)) 97) - 64)) (wrap64 ((Int.tmod (wrap64 (x1)) 97) - 64)) x2 0).bind fun t219 => (if t219 = (wrap64 ((Int.tmod (wrap64 (x0)) 97) - 64)) then (if x2 > 1 then ((gain_Fade.f k (wrap64 ((Int.tmod (wrap64 (x0)) 97) - 64)) (wrap64 ((Int.tmod (wrap64 (x1)) 97) - 64)) x2 (wrap64 (x2 - 1))).bind fun t220 => (splicerlaw25_GainGoes.j1 k (wrap64 ((Int.tmod (wrap64 (x0)) 97) - 64)) (wrap64 ((Int.tmod (wrap64 (x1)) 97) - 64)) t217 t218 (t220 != (wrap64 ((Int.tmod (wrap64 (x1)) 97) - 64))))) else (splicerlaw25_GainGoes.j1 k (wrap64 ((Int.tmod (wrap64 (x0)) 97) - 64)) (wrap64 ((Int.tmod (wrap64 (x1)) 97) - 64)) t217 t218 false)) else (splicerlaw25_GainGoes.j1 k (wrap64 ((Int.tmod (wrap64 (x0)) 97) - 64)) (wrap64 ((Int.tmod (wrap64 (x1)) 97) - 64)) t217 t218 true)))))
def splicerlaw25_GainGoes.j1 : Nat → Int → Int → Int → Int → Bool → Option (Bool)
  | 0, _, _, _, _, _ => none
  | k + 1, x11, x12, x13, x14, x81 => if x81 = true then (some false) else (if (mn x13 x14) < (mn x11 x12) then (some false) else (if (mx x13 x14) > (mx x11 x12) then (some false) else (if x11 ≤ x12 then (if x13 ≤ x14 then ((splicerlaw25_awake.f).bind fun t221 => (some t221)) else (if x11 ≥ x12 then (if x13 ≥ x14 then ((splicerlaw25_awake.f).bind fun t222 => (some t222)) else (some false)) else (some false))) else (if x11 ≥ x12 then (if x13 ≥ x14 then ((splicerlaw25_awake.f).bind fun t223 => (some t223)) else (some false)) else (some false)))))
end
def splicerlaw25_GainGoes.f (k : Nat) (a0 : Int) (a1 : Int) (a2 : Int) (a3 : Int) (a4 : Int) : Option (Bool) := if a2 < 1 then (splicerlaw25_GainGoes.j0 k a0 a1 a2 a3 a4 true) else (if a2 > 70368744177664 then (splicerlaw25_GainGoes.j0 k a0 a1 a2 a3 a4 true) else (if a3 < 0 then (splicerlaw25_GainGoes.j0 k a0 a1 a2 a3 a4 true) else (if a3 ≥ a2 then (splicerlaw25_GainGoes.j0 k a0 a1 a2 a3 a4 true) else (if a4 < 0 then (splicerlaw25_GainGoes.j0 k a0 a1 a2 a3 a4 true) else (splicerlaw25_GainGoes.j0 k a0 a1 a2 a3 a4 (decide (a4 ≥ a2)))))))
theorem splicerlaw25_GainGoes.mono_l : ∀ k, (∀ y0 y1 y2 y3 y4 y5, LeO (splicerlaw25_GainGoes.j0 k y0 y1 y2 y3 y4 y5) (splicerlaw25_GainGoes.j0 (k + 1) y0 y1 y2 y3 y4 y5)) ∧ (∀ y0 y1 y2 y3 y4, LeO (splicerlaw25_GainGoes.j1 k y0 y1 y2 y3 y4) (splicerlaw25_GainGoes.j1 (k + 1) y0 y1 y2 y3 y4))
  | 0 => ⟨fun _ _ _ _ _ _ r h => by simp [splicerlaw25_GainGoes.j0] at h, fun _ _ _ _ _ r h => by simp [splicerlaw25_GainGoes.j1] at h⟩
  | k + 1 => by
    obtain ⟨ih0, ih1⟩ := splicerlaw25_GainGoes.mono_l k
    refine ⟨?_, ?_⟩
    · intro y0 y1 y2 y3 y4 y5
      unfold splicerlaw25_GainGoes.j0
      repeat' first
      | (with_reducible exact ih0 _ _ _ _ _ _)
      | (with_reducible exact ih1 _ _ _ _ _)
      | (with_reducible exact gain_Fade.mono _ _ _ _ _)
      | (with_reducible exact LeO.refl _)
      | (with_reducible exact LeO.none _)
      | (with_reducible refine LeO.ite ?_ ?_)
      | (with_reducible refine LeO.bind ?_ (fun _ => ?_))
      | exact ih0 _ _ _ _ _ _
      | exact ih1 _ _ _ _ _
      | exact gain_Fade.mono _ _ _ _ _
      | exact LeO.none _
      | refine LeO.ite ?_ ?_
      | refine LeO.bind ?_ (fun _ => ?_)
    · intro y0 y1 y2 y3 y4
      unfold splicerlaw25_GainGoes.j1
      repeat' first
      | (with_reducible exact ih0 _ _ _ _ _ _)
      | (with_reducible exact ih1 _ _ _ _ _)
      | (with_reducible exact gain_Fade.mono _ _ _ _ _)
      | (with_reducible exact LeO.refl _)
      | (with_reducible exact LeO.none _)
      | (with_reducible refine LeO.ite ?_ ?_)
      | (with_reducible refine LeO.bind ?_ (fun _ => ?_))
      | exact ih0 _ _ _ _ _ _
      | exact ih1 _ _ _ _ _
      | exact gain_Fade.mono _ _ _ _ _
      | exact LeO.none _
      | refine LeO.ite ?_ ?_
      | refine LeO.bind ?_ (fun _ => ?_)
theorem splicerlaw25_GainGoes.mono : ∀ a0 a1 a2 a3 a4 k, LeO (splicerlaw25_GainGoes.f k a0 a1 a2 a3 a4) (splicerlaw25_GainGoes.f (k + 1) a0 a1 a2 a3 a4) := by
  intro a0 a1 a2 a3 a4 k
  obtain ⟨ih0, ih1⟩ := splicerlaw25_GainGoes.mono_l k
  unfold splicerlaw25_GainGoes.f
  repeat' first
      | (with_reducible exact ih0 _ _ _ _ _ _)
      | (with_reducible exact ih1 _ _ _ _ _)
      | (with_reducible exact gain_Fade.mono _ _ _ _ _)
      | (with_reducible exact LeO.refl _)
      | (with_reducible exact LeO.none _)
      | (with_reducible refine LeO.ite ?_ ?_)
      | (with_reducible refine LeO.bind ?_ (fun _ => ?_))
      | exact ih0 _ _ _ _ _ _
      | exact ih1 _ _ _ _ _
      | exact gain_Fade.mono _ _ _ _ _
      | exact LeO.none _
      | refine LeO.ite ?_ ?_
      | refine LeO.bind ?_ (fun _ => ?_)
set_option maxHeartbeats 8000000 in
set_option maxRecDepth 100000 in
theorem splicerlaw25_GainGoes.calls (k : Nat) (a0 : Int) (a1 : Int) (a2 : Int) (a3 : Int) (a4 : Int) (r : Bool) (w : World) (h : splicerlaw25_GainGoes.f k a0 a1 a2 a3 a4 = some r) :
    Calls Try.prog 9 #[.int .u8 a0, .int .u8 a1, .int .i64 a2, .int .i64 a3, .int .i64 a4] w fun e w' => e = .returned (.bool r) ∧ Below w.heap.size w w' := by
  have HB := Aside0.mk (Below.refl w.heap.size w)
  have H : (if a2 < 1 then (splicerlaw25_GainGoes.j0 k a0 a1 a2 a3 a4 true) else (if a2 > 70368744177664 then (splicerlaw25_GainGoes.j0 k a0 a1 a2 a3 a4 true) else (if a3 < 0 then (splicerlaw25_GainGoes.j0 k a0 a1 a2 a3 a4 true) else (if a3 ≥ a2 then (splicerlaw25_GainGoes.j0 k a0 a1 a2 a3 a4 true) else (if a4 < 0 then (splicerlaw25_GainGoes.j0 k a0 a1 a2 a3 a4 true) else (splicerlaw25_GainGoes.j0 k a0 a1 a2 a3 a4 (decide (a4 ≥ a2)))))))) = some r := h
  clear h
  have HC6 := Aside0.mk H
  clear H
  go_enter Try.func9, Try.ntmps9
  go_upto_region 1 with (fail)
  go_cut [38] (fun v38 wc => ∃ (kq : Nat) (x38_5 : Bool), v38 = .bool x38_5 ∧ Aside0 (splicerlaw25_GainGoes.j0 kq a0 a1 a2 a3 a4 x38_5 = some r) ∧ Aside0 (kq ≤ k) ∧ Aside0 (Below w.heap.size w wc))
  case first =>
    have H := HC6.out
    clear HC6
    by_cases c7 : a2 < 1
    · rw [if_pos c7] at H
      have c7b0 : decide (a2 < 1) = true := decide_eq_true c7
      clear c7
      (first | rw [c7b0] | (simp only [i64_w, i32_w]; rw [c7b0]) | skip)
      have H' := Aside0.mk H
      clear H
      go_wp2
      go_meet
      case rel => exact ⟨_, (true), (by first | rfl | (simp; done) | (simp [*]; done)), H', ⟨by first | omega | exact Nat.le_refl _⟩, ⟨by repeat (first | (with_reducible first | exact HB.out | apply below_alloc | apply pw_below_drewN | apply below_drew1) | exact HB.out)⟩⟩
    · rw [if_neg c7] at H
      have c7b0 : decide (a2 < 1) = false := decide_eq_false c7
      clear c7
      (first | rw [c7b0] | (simp only [i64_w, i32_w]; rw [c7b0]) | skip)
      by_cases c8 : a2 > 70368744177664
      · rw [if_pos c8] at H
        have c8b0 : decide (70368744177664 < a2) = true := decide_eq_true c8
        clear c8
        have H' := Aside0.mk H
        clear H
        go_wp2
        go_meet
        case rel => exact ⟨_, (true), (by first | rfl | (simp; done) | (simp [*]; done)), H', ⟨by first | omega | exact Nat.le_refl _⟩, ⟨by repeat (first | (with_reducible first | exact HB.out | apply below_alloc | apply pw_below_drewN | apply below_drew1) | exact HB.out)⟩⟩
      · rw [if_neg c8] at H
        have c8b0 : decide (70368744177664 < a2) = false := decide_eq_false c8
        clear c8
        by_cases c9 : a3 < 0
        · rw [if_pos c9] at H
          have c9b0 : decide (a3 < 0) = true := decide_eq_true c9
          clear c9
          have H' := Aside0.mk H
          clear H
          go_wp2
          go_meet
          case rel => exact ⟨_, (true), (by first | rfl | (simp; done) | (simp [*]; done)), H', ⟨by first | omega | exact Nat.le_refl _⟩, ⟨by repeat (first | (with_reducible first | exact HB.out | apply below_alloc | apply pw_below_drewN | apply below_drew1) | exact HB.out)⟩⟩
        · rw [if_neg c9] at H
          have c9b0 : decide (a3 < 0) = false := decide_eq_false c9
          clear c9
          by_cases c10 : a3 ≥ a2
          · rw [if_pos c10] at H
            have c10b0 : decide (a2 ≤ a3) = true := decide_eq_true c10
            clear c10
            have H' := Aside0.mk H
            clear H
            go_wp2
            go_meet
            case rel => exact ⟨_, (true), (by first | rfl | (simp; done) | (simp [*]; done)), H', ⟨by first | omega | exact Nat.le_refl _⟩, ⟨by repeat (first | (with_reducible first | exact HB.out | apply below_alloc | apply pw_below_drewN | apply below_drew1) | exact HB.out)⟩⟩
          · rw [if_neg c10] at H
            have c10b0 : decide (a2 ≤ a3) = false := decide_eq_false c10
            clear c10
            by_cases c11 : a4 < 0
            · rw [if_pos c11] at H
              have c11b0 : decide (a4 < 0) = true := decide_eq_true c11
              clear c11
              have H' := Aside0.mk H
              clear H
              go_wp2
              go_meet
              case rel => exact ⟨_, (true), (by first | rfl | (simp; done) | (simp [*]; done)), H', ⟨by first | omega | exact Nat.le_refl _⟩, ⟨by repeat (first | (with_reducible first | exact HB.out | apply below_alloc | apply pw_below_drewN | apply below_drew1) | exact HB.out)⟩⟩
            · rw [if_neg c11] at H
              have c11b0 : decide (a4 < 0) = false := decide_eq_false c11
              clear c11
              have H' := Aside0.mk H
              clear H
              go_wp2
              go_meet
              case rel => exact ⟨_, (decide (a4 ≥ a2)), (by first | rfl | (simp; done) | (simp [*]; done)), H', ⟨by first | omega | exact Nat.le_refl _⟩, ⟨by repeat (first | (with_reducible first | exact HB.out | apply below_alloc | apply pw_below_drewN | apply below_drew1) | exact HB.out)⟩⟩
  case rest =>
    clear HC6
    try clear c1
    try clear p2
    try clear c7
    try clear c7b0
    try clear c8
    try clear c8b0
    try clear c9
    try clear c9b0
    try clear c10
    try clear c10b0
    try clear c11
    try clear c11b0
    obtain ⟨kq, x38_5, rfl, HA, HJ5, HB⟩ := hcut
    cases kq with
    | zero => exact absurd HA.out (by simp [splicerlaw25_GainGoes.j0])
    | succ kj5 =>
      have H := HA.out
      clear HA
      simp only [splicerlaw25_GainGoes.j0] at H
      by_cases c12 : x38_5 = true
      · subst c12
        have H1 : ((splicerlaw25_awake.f).bind fun t216 => (some t216)) = some r := by rw [if_pos rfl] at H; exact H
        clear H
        have H := H1
        clear H1
        replace H := Option.bind_eq_some_iff.mp H
        obtain ⟨t216, A130, H⟩ := H
        replace H : (some t216) = some r := H
        have A13 := Aside0.mk A130
        clear A130
        obtain rfl := Option.some.inj H
        go_wp2_with (first | ((with_reducible refine gate_callee (f := 29) rfl ?_); refine goesL_ (some 39) rfl rfl Try.func29 (by kernel_rfl) rfl #[] rfl (by (try simp only [List.map_toArray, List.map_cons, List.map_nil]); first | done | rfl | (simp only [List.length_drop, List.length_take]; rfl)) ?_; (with_reducible refine (splicerlaw25_awake.calls  t216 _ A13.out).mono ?_); rintro e w14 ⟨rfl, hb⟩; refine ⟨_, rfl, ?_⟩; have n0_ := Aside0.mk (below_step (by repeat (first | (with_reducible first | exact HB.out | apply below_alloc | apply pw_below_drewN | apply below_drew1) | exact HB.out)) hb); clear HB; have HB := n0_; clear n0_; (try clear hb); (try clear hb2); (try clear hk); (try clear hi)))
        go_ret
        exact ⟨by first | rfl | (simp [errW_none, errW_some] <;> rfl) | (simp [*, errW_none, errW_some] <;> rfl), by repeat (first | (with_reducible first | exact HB.out | apply below_alloc | apply pw_below_drewN | apply below_drew1) | exact HB.out)⟩
      · replace c12 := Bool.eq_false_iff.mpr c12
        subst c12
        have H1 : ((gain_Fade.f kj5 (wrap64 ((Int.tmod (wrap64 (a0)) 97) - 64)) (wrap64 ((Int.tmod (wrap64 (a1)) 97) - 64)) a2 (mn a3 a4)).bind fun t217 => ((gain_Fade.f kj5 (wrap64 ((Int.tmod (wrap64 (a0)) 97) - 64)) (wrap64 ((Int.tmod (wrap64 (a1)) 97) - 64)) a2 (mx a3 a4)).bind fun t218 => ((gain_Fade.f kj5 (wrap64 ((Int.tmod (wrap64 (a0)) 97) - 64)) (wrap64 ((Int.tmod (wrap64 (a1)) 97) - 64)) a2 0).bind fun t219 => (if t219 = (wrap64 ((Int.tmod (wrap64 (a0)) 97) - 64)) then (if a2 > 1 then ((gain_Fade.f kj5 (wrap64 ((Int.tmod (wrap64 (a0)) 97) - 64)) (wrap64 ((Int.tmod (wrap64 (a1)) 97) - 64)) a2 (wrap64 (a2 - 1))).bind fun t220 => (splicerlaw25_GainGoes.j1 kj5 (wrap64 ((Int.tmod (wrap64 (a0)) 97) - 64)) (wrap64 ((Int.tmod (wrap64 (a1)) 97) - 64)) t217 t218 (t220 != (wrap64 ((Int.tmod (wrap64 (a1)) 97) - 64))))) else (splicerlaw25_GainGoes.j1 kj5 (wrap64 ((Int.tmod (wrap64 (a0)) 97) - 64)) (wrap64 ((Int.tmod (wrap64 (a1)) 97) - 64)) t217 t218 false)) else (splicerlaw25_GainGoes.j1 kj5 (wrap64 ((Int.tmod (wrap64 (a0)) 97) - 64)) (wrap64 ((Int.tmod (wrap64 (a1)) 97) - 64)) t217 t218 true))))) = some r := by rw [if_neg (show ¬ (false = true) by decide)] at H; exact H
        clear H
        have H := H1
        clear H1
        obtain ⟨ji15, hji15⟩ : ∃ j_ : Int, (mn a3 a4) = j_ := ⟨_, rfl⟩
        replace H : ((gain_Fade.f kj5 (wrap64 ((Int.tmod (wrap64 (a0)) 97) - 64)) (wrap64 ((Int.tmod (wrap64 (a1)) 97) - 64)) a2 (ji15)).bind fun t217 => ((gain_Fade.f kj5 (wrap64 ((Int.tmod (wrap64 (a0)) 97) - 64)) (wrap64 ((Int.tmod (wrap64 (a1)) 97) - 64)) a2 (mx a3 a4)).bind fun t218 => ((gain_Fade.f kj5 (wrap64 ((Int.tmod (wrap64 (a0)) 97) - 64)) (wrap64 ((Int.tmod (wrap64 (a1)) 97) - 64)) a2 0).bind fun t219 => (if t219 = (wrap64 ((Int.tmod (wrap64 (a0)) 97) - 64)) then (if a2 > 1 then ((gain_Fade.f kj5 (wrap64 ((Int.tmod (wrap64 (a0)) 97) - 64)) (wrap64 ((Int.tmod (wrap64 (a1)) 97) - 64)) a2 (wrap64 (a2 - 1))).bind fun t220 => (splicerlaw25_GainGoes.j1 kj5 (wrap64 ((Int.tmod (wrap64 (a0)) 97) - 64)) (wrap64 ((Int.tmod (wrap64 (a1)) 97) - 64)) t217 t218 (t220 != (wrap64 ((Int.tmod (wrap64 (a1)) 97) - 64))))) else (splicerlaw25_GainGoes.j1 kj5 (wrap64 ((Int.tmod (wrap64 (a0)) 97) - 64)) (wrap64 ((Int.tmod (wrap64 (a1)) 97) - 64)) t217 t218 false)) else (splicerlaw25_GainGoes.j1 kj5 (wrap64 ((Int.tmod (wrap64 (a0)) 97) - 64)) (wrap64 ((Int.tmod (wrap64 (a1)) 97) - 64)) t217 t218 true))))) = some r := by first | (rw [hji15] at H; exact H) | (simp only [hji15] at H ⊢; exact H)
        have hji15_ : (if a4 < a3 then a4 else a3) = ji15 := hji15
        replace H := Option.bind_eq_some_iff.mp H
        obtain ⟨t217, A160, H⟩ := H
        replace H : ((gain_Fade.f kj5 (wrap64 ((Int.tmod (wrap64 (a0)) 97) - 64)) (wrap64 ((Int.tmod (wrap64 (a1)) 97) - 64)) a2 (mx a3 a4)).bind fun t218 => ((gain_Fade.f kj5 (wrap64 ((Int.tmod (wrap64 (a0)) 97) - 64)) (wrap64 ((Int.tmod (wrap64 (a1)) 97) - 64)) a2 0).bind fun t219 => (if t219 = (wrap64 ((Int.tmod (wrap64 (a0)) 97) - 64)) then (if a2 > 1 then ((gain_Fade.f kj5 (wrap64 ((Int.tmod (wrap64 (a0)) 97) - 64)) (wrap64 ((Int.tmod (wrap64 (a1)) 97) - 64)) a2 (wrap64 (a2 - 1))).bind fun t220 => (splicerlaw25_GainGoes.j1 kj5 (wrap64 ((Int.tmod (wrap64 (a0)) 97) - 64)) (wrap64 ((Int.tmod (wrap64 (a1)) 97) - 64)) t217 t218 (t220 != (wrap64 ((Int.tmod (wrap64 (a1)) 97) - 64))))) else (splicerlaw25_GainGoes.j1 kj5 (wrap64 ((Int.tmod (wrap64 (a0)) 97) - 64)) (wrap64 ((Int.tmod (wrap64 (a1)) 97) - 64)) t217 t218 false)) else (splicerlaw25_GainGoes.j1 kj5 (wrap64 ((Int.tmod (wrap64 (a0)) 97) - 64)) (wrap64 ((Int.tmod (wrap64 (a1)) 97) - 64)) t217 t218 true)))) = some r := H
        have A16 := Aside0.mk A160
        clear A160
        obtain ⟨ji17, hji17⟩ : ∃ j_ : Int, (mx a3 a4) = j_ := ⟨_, rfl⟩
        replace H : ((gain_Fade.f kj5 (wrap64 ((Int.tmod (wrap64 (a0)) 97) - 64)) (wrap64 ((Int.tmod (wrap64 (a1)) 97) - 64)) a2 (ji17)).bind fun t218 => ((gain_Fade.f kj5 (wrap64 ((Int.tmod (wrap64 (a0)) 97) - 64)) (wrap64 ((Int.tmod (wrap64 (a1)) 97) - 64)) a2 0).bind fun t219 => (if t219 = (wrap64 ((Int.tmod (wrap64 (a0)) 97) - 64)) then (if a2 > 1 then ((gain_Fade.f kj5 (wrap64 ((Int.tmod (wrap64 (a0)) 97) - 64)) (wrap64 ((Int.tmod (wrap64 (a1)) 97) - 64)) a2 (wrap64 (a2 - 1))).bind fun t220 => (splicerlaw25_GainGoes.j1 kj5 (wrap64 ((Int.tmod (wrap64 (a0)) 97) - 64)) (wrap64 ((Int.tmod (wrap64 (a1)) 97) - 64)) t217 t218 (t220 != (wrap64 ((Int.tmod (wrap64 (a1)) 97) - 64))))) else (splicerlaw25_GainGoes.j1 kj5 (wrap64 ((Int.tmod (wrap64 (a0)) 97) - 64)) (wrap64 ((Int.tmod (wrap64 (a1)) 97) - 64)) t217 t218 false)) else (splicerlaw25_GainGoes.j1 kj5 (wrap64 ((Int.tmod (wrap64 (a0)) 97) - 64)) (wrap64 ((Int.tmod (wrap64 (a1)) 97) - 64)) t217 t218 true)))) = some r := by first | (rw [hji17] at H; exact H) | (simp only [hji17] at H ⊢; exact H)
        (try rw [hji17] at A16)
        have hji17_ : (if a3 < a4 then a4 else a3) = ji17 := hji17
        replace H := Option.bind_eq_some_iff.mp H
        obtain ⟨t218, A180, H⟩ := H
        replace H : ((gain_Fade.f kj5 (wrap64 ((Int.tmod (wrap64 (a0)) 97) - 64)) (wrap64 ((Int.tmod (wrap64 (a1)) 97) - 64)) a2 0).bind fun t219 => (if t219 = (wrap64 ((Int.tmod (wrap64 (a0)) 97) - 64)) then (if a2 > 1 then ((gain_Fade.f kj5 (wrap64 ((Int.tmod (wrap64 (a0)) 97) - 64)) (wrap64 ((Int.tmod (wrap64 (a1)) 97) - 64)) a2 (wrap64 (a2 - 1))).bind fun t220 => (splicerlaw25_GainGoes.j1 kj5 (wrap64 ((Int.tmod (wrap64 (a0)) 97) - 64)) (wrap64 ((Int.tmod (wrap64 (a1)) 97) - 64)) t217 t218 (t220 != (wrap64 ((Int.tmod (wrap64 (a1)) 97) - 64))))) else (splicerlaw25_GainGoes.j1 kj5 (wrap64 ((Int.tmod (wrap64 (a0)) 97) - 64)) (wrap64 ((Int.tmod (wrap64 (a1)) 97) - 64)) t217 t218 false)) else (splicerlaw25_GainGoes.j1 kj5 (wrap64 ((Int.tmod (wrap64 (a0)) 97) - 64)) (wrap64 ((Int.tmod (wrap64 (a1)) 97) - 64)) t217 t218 true))) = some r := H
        have A18 := Aside0.mk A180
        clear A180
        have HC19 := Aside0.mk H
        clear H
        go_upto_region 5 with (first | ((with_reducible refine gate_callee (f := 27) rfl ?_); refine goesL_ (some 54) rfl rfl Try.func27 (by kernel_rfl) rfl #[.int .i64 (wrap64 ((Int.tmod (wrap64 (a0)) 97) - 64)), .int .i64 (wrap64 ((Int.tmod (wrap64 (a1)) 97) - 64)), .int .i64 a2, .int .i64 ji15] rfl (by (try simp only [List.map_toArray, List.map_cons, List.map_nil]); first | done | (simp only [hji15]; rfl) | rfl | (simp only [List.length_drop, List.length_take]; rfl)) ?_; (with_reducible refine (gain_Fade.calls kj5 (wrap64 ((Int.tmod (wrap64 (a0)) 97) - 64)) (wrap64 ((Int.tmod (wrap64 (a1)) 97) - 64)) a2 ji15 t217 _ A16.out).mono ?_); rintro e w20 ⟨rfl, hb⟩; refine ⟨_, rfl, ?_⟩; have n0_ := Aside0.mk (below_step (by repeat (first | (with_reducible first | exact HB.out | apply below_alloc | apply pw_below_drewN | apply below_drew1) | exact HB.out)) hb); clear HB; have HB := n0_; clear n0_; (try clear hb); (try clear hb2); (try clear hk); (try clear hi)) | ((with_reducible refine gate_callee (f := 27) rfl ?_); refine goesL_ (some 61) rfl rfl Try.func27 (by kernel_rfl) rfl #[.int .i64 (wrap64 ((Int.tmod (wrap64 (a0)) 97) - 64)), .int .i64 (wrap64 ((Int.tmod (wrap64 (a1)) 97) - 64)), .int .i64 a2, .int .i64 ji17] rfl (by (try simp only [List.map_toArray, List.map_cons, List.map_nil]); first | done | (simp only [hji17]; rfl) | rfl | (simp only [List.length_drop, List.length_take]; rfl)) ?_; (with_reducible refine (gain_Fade.calls kj5 (wrap64 ((Int.tmod (wrap64 (a0)) 97) - 64)) (wrap64 ((Int.tmod (wrap64 (a1)) 97) - 64)) a2 ji17 t218 _ A18.out).mono ?_); rintro e w21 ⟨rfl, hb⟩; refine ⟨_, rfl, ?_⟩; have n0_ := Aside0.mk (below_step (by repeat (first | (with_reducible first | exact HB.out | apply below_alloc | apply pw_below_drewN | apply below_drew1) | exact HB.out)) hb); clear HB; have HB := n0_; clear n0_; (try clear hb); (try clear hb2); (try clear hk); (try clear hi)))
        (try simp only [Act.put, List.setIfInBounds_toArray, List.set_cons_zero, List.set_cons_succ])
        go_cut [81] (fun v81 wc => ∃ (kq : Nat) (x81_18 : Bool), v81 = .bool x81_18 ∧ Aside0 (splicerlaw25_GainGoes.j1 kq (wrap64 ((Int.tmod (wrap64 (a0)) 97) - 64)) (wrap64 ((Int.tmod (wrap64 (a1)) 97) - 64)) t217 t218 x81_18 = some r) ∧ Aside0 (kq ≤ kj5) ∧ Aside0 (Below w.heap.size w wc))
        case first =>
          have H := HC19.out
          clear HC19
          replace H := Option.bind_eq_some_iff.mp H
          obtain ⟨t219, A220, H⟩ := H
          replace H : (if t219 = (wrap64 ((Int.tmod (wrap64 (a0)) 97) - 64)) then (if a2 > 1 then ((gain_Fade.f kj5 (wrap64 ((Int.tmod (wrap64 (a0)) 97) - 64)) (wrap64 ((Int.tmod (wrap64 (a1)) 97) - 64)) a2 (wrap64 (a2 - 1))).bind fun t220 => (splicerlaw25_GainGoes.j1 kj5 (wrap64 ((Int.tmod (wrap64 (a0)) 97) - 64)) (wrap64 ((Int.tmod (wrap64 (a1)) 97) - 64)) t217 t218 (t220 != (wrap64 ((Int.tmod (wrap64 (a1)) 97) - 64))))) else (splicerlaw25_GainGoes.j1 kj5 (wrap64 ((Int.tmod (wrap64 (a0)) 97) - 64)) (wrap64 ((Int.tmod (wrap64 (a1)) 97) - 64)) t217 t218 false)) else (splicerlaw25_GainGoes.j1 kj5 (wrap64 ((Int.tmod (wrap64 (a0)) 97) - 64)) (wrap64 ((Int.tmod (wrap64 (a1)) 97) - 64)) t217 t218 true)) = some r := H
          have A22 := Aside0.mk A220
          clear A220
          by_cases c23 : t219 = (wrap64 ((Int.tmod (wrap64 (a0)) 97) - 64))
          · rw [if_pos c23] at H
            have c23b0 : (t219 == (wrap64 ((Int.tmod (wrap64 (a0)) 97) - 64))) = true := beq_iff_eq.mpr c23
            have c23b1 : (t219 != (wrap64 ((Int.tmod (wrap64 (a0)) 97) - 64))) = false := bne_eq_false_iff_eq.mpr c23
            clear c23
            (first | rw [c23b0] | (simp only [i64_w, i32_w]; rw [c23b0]) | skip)
            by_cases c24 : a2 > 1
            · rw [if_pos c24] at H
              have c24b0 : decide (1 < a2) = true := decide_eq_true c24
              clear c24
              replace H := Option.bind_eq_some_iff.mp H
              obtain ⟨t220, A250, H⟩ := H
              replace H : (splicerlaw25_GainGoes.j1 kj5 (wrap64 ((Int.tmod (wrap64 (a0)) 97) - 64)) (wrap64 ((Int.tmod (wrap64 (a1)) 97) - 64)) t217 t218 (t220 != (wrap64 ((Int.tmod (wrap64 (a1)) 97) - 64)))) = some r := H
              have A25 := Aside0.mk A250
              clear A250
              have H' := Aside0.mk H
              clear H
              go_wp2_with (first | ((with_reducible refine gate_callee (f := 27) rfl ?_); refine goesL_ (some 65) rfl rfl Try.func27 (by kernel_rfl) rfl #[.int .i64 (wrap64 ((Int.tmod (wrap64 (a0)) 97) - 64)), .int .i64 (wrap64 ((Int.tmod (wrap64 (a1)) 97) - 64)), .int .i64 a2, .int .i64 0] rfl (by (try simp only [List.map_toArray, List.map_cons, List.map_nil]); first | done | rfl | (simp only [List.length_drop, List.length_take]; rfl)) ?_; (with_reducible refine (gain_Fade.calls kj5 (wrap64 ((Int.tmod (wrap64 (a0)) 97) - 64)) (wrap64 ((Int.tmod (wrap64 (a1)) 97) - 64)) a2 0 t219 _ A22.out).mono ?_); rintro e w26 ⟨rfl, hb⟩; refine ⟨_, rfl, ?_⟩; have n0_ := Aside0.mk (below_step (by repeat (first | (with_reducible first | exact HB.out | apply below_alloc | apply pw_below_drewN | apply below_drew1) | exact HB.out)) hb); clear HB; have HB := n0_; clear n0_; (try clear hb); (try clear hb2); (try clear hk); (try clear hi)) | (go_at_call 27; (with_reducible refine (gain_Fade.calls kj5 (wrap64 ((Int.tmod (wrap64 (a0)) 97) - 64)) (wrap64 ((Int.tmod (wrap64 (a1)) 97) - 64)) a2 (wrap64 (a2 - 1)) t220 _ A25.out).mono ?_); rintro e w27 ⟨rfl, hb⟩; have n0_ := Aside0.mk (below_step (by repeat (first | (with_reducible first | exact HB.out | apply below_alloc | apply pw_below_drewN | apply below_drew1) | exact HB.out)) hb); clear HB; have HB := n0_; clear n0_; (try clear hb); (try clear hb2); (try clear hk); (try clear hi)))
              go_meet
              case rel => exact ⟨_, ((t220 != (wrap64 ((Int.tmod (wrap64 (a1)) 97) - 64)))), (by first | rfl | (simp; done) | (simp [*]; done)), H', ⟨by have := HJ5.out; first | omega | exact Nat.le_refl _⟩, ⟨by repeat (first | (with_reducible first | exact HB.out | apply below_alloc | apply pw_below_drewN | apply below_drew1) | exact HB.out)⟩⟩
            · rw [if_neg c24] at H
              have c24b0 : decide (1 < a2) = false := decide_eq_false c24
              clear c24
              have H' := Aside0.mk H
              clear H
              go_wp2_with (first | ((with_reducible refine gate_callee (f := 27) rfl ?_); refine goesL_ (some 65) rfl rfl Try.func27 (by kernel_rfl) rfl #[.int .i64 (wrap64 ((Int.tmod (wrap64 (a0)) 97) - 64)), .int .i64 (wrap64 ((Int.tmod (wrap64 (a1)) 97) - 64)), .int .i64 a2, .int .i64 0] rfl (by (try simp only [List.map_toArray, List.map_cons, List.map_nil]); first | done | rfl | (simp only [List.length_drop, List.length_take]; rfl)) ?_; (with_reducible refine (gain_Fade.calls kj5 (wrap64 ((Int.tmod (wrap64 (a0)) 97) - 64)) (wrap64 ((Int.tmod (wrap64 (a1)) 97) - 64)) a2 0 t219 _ A22.out).mono ?_); rintro e w28 ⟨rfl, hb⟩; refine ⟨_, rfl, ?_⟩; have n0_ := Aside0.mk (below_step (by repeat (first | (with_reducible first | exact HB.out | apply below_alloc | apply pw_below_drewN | apply below_drew1) | exact HB.out)) hb); clear HB; have HB := n0_; clear n0_; (try clear hb); (try clear hb2); (try clear hk); (try clear hi)))
              go_meet
              case rel => exact ⟨_, (false), (by first | rfl | (simp; done) | (simp [*]; done)), H', ⟨by have := HJ5.out; first | omega | exact Nat.le_refl _⟩, ⟨by repeat (first | (with_reducible first | exact HB.out | apply below_alloc | apply pw_below_drewN | apply below_drew1) | exact HB.out)⟩⟩
          · rw [if_neg c23] at H
            have c23b0 : (t219 == (wrap64 ((Int.tmod (wrap64 (a0)) 97) - 64))) = false := beq_eq_false_iff_ne.mpr c23
            have c23b1 : (t219 != (wrap64 ((Int.tmod (wrap64 (a0)) 97) - 64))) = true := bne_iff_ne.mpr c23
            (first | rw [c23b0] | (simp only [i64_w, i32_w]; rw [c23b0]) | skip)
            have H' := Aside0.mk H
            clear H
            go_wp2_with (first | ((with_reducible refine gate_callee (f := 27) rfl ?_); refine goesL_ (some 65) rfl rfl Try.func27 (by kernel_rfl) rfl #[.int .i64 (wrap64 ((Int.tmod (wrap64 (a0)) 97) - 64)), .int .i64 (wrap64 ((Int.tmod (wrap64 (a1)) 97) - 64)), .int .i64 a2, .int .i64 0] rfl (by (try simp only [List.map_toArray, List.map_cons, List.map_nil]); first | done | rfl | (simp only [List.length_drop, List.length_take]; rfl)) ?_; (with_reducible refine (gain_Fade.calls kj5 (wrap64 ((Int.tmod (wrap64 (a0)) 97) - 64)) (wrap64 ((Int.tmod (wrap64 (a1)) 97) - 64)) a2 0 t219 _ A22.out).mono ?_); rintro e w29 ⟨rfl, hb⟩; refine ⟨_, rfl, ?_⟩; have n0_ := Aside0.mk (below_step (by repeat (first | (with_reducible first | exact HB.out | apply below_alloc | apply pw_below_drewN | apply below_drew1) | exact HB.out)) hb); clear HB; have HB := n0_; clear n0_; (try clear hb); (try clear hb2); (try clear hk); (try clear hi)))
            go_meet
            case rel => exact ⟨_, (true), (by first | rfl | (simp; done) | (simp [*]; done)), H', ⟨by have := HJ5.out; first | omega | exact Nat.le_refl _⟩, ⟨by repeat (first | (with_reducible first | exact HB.out | apply below_alloc | apply pw_below_drewN | apply below_drew1) | exact HB.out)⟩⟩
        case rest =>
          clear HC19
          try clear c1
          try clear c2
          try clear p2
          try clear p6
          try clear c7
          try clear c7b0
          try clear c8
          try clear c8b0
          try clear c9
          try clear c9b0
          try clear c10
          try clear c10b0
          try clear c11
          try clear c11b0
          try clear c12
          try clear c23
          try clear c23b0
          try clear c23b1
          try clear c24
          try clear c24b0
          try clear c27
          try clear c29
          try clear p2
          obtain ⟨kq, x81_18, rfl, HA, HJ18, HB⟩ := hcut
          cases kq with
          | zero => exact absurd HA.out (by simp [splicerlaw25_GainGoes.j1])
          | succ kj18 =>
            have H := HA.out
            clear HA
            simp only [splicerlaw25_GainGoes.j1] at H
            by_cases c30 : x81_18 = true
            · subst c30
              have H1 : (some false) = some r := by rw [if_pos rfl] at H; exact H
              clear H
              have H := H1
              clear H1
              obtain rfl := Option.some.inj H
              go_wp2
              go_ret
              exact ⟨by first | rfl | (simp [errW_none, errW_some] <;> rfl) | (simp only [← hji15, ← hji17]; first | rfl | (simp [errW_none, errW_some] <;> rfl)) | (simp [*, errW_none, errW_some] <;> rfl), by repeat (first | (with_reducible first | exact HB.out | apply below_alloc | apply pw_below_drewN | apply below_drew1) | exact HB.out)⟩
            · replace c30 := Bool.eq_false_iff.mpr c30
              subst c30
              have H1 : (if (mn t217 t218) < (mn (wrap64 ((Int.tmod (wrap64 (a0)) 97) - 64)) (wrap64 ((Int.tmod (wrap64 (a1)) 97) - 64))) then (some false) else (if (mx t217 t218) > (mx (wrap64 ((Int.tmod (wrap64 (a0)) 97) - 64)) (wrap64 ((Int.tmod (wrap64 (a1)) 97) - 64))) then (some false) else (if (wrap64 ((Int.tmod (wrap64 (a0)) 97) - 64)) ≤ (wrap64 ((Int.tmod (wrap64 (a1)) 97) - 64)) then (if t217 ≤ t218 then ((splicerlaw25_awake.f).bind fun t221 => (some t221)) else (if (wrap64 ((Int.tmod (wrap64 (a0)) 97) - 64)) ≥ (wrap64 ((Int.tmod (wrap64 (a1)) 97) - 64)) then (if t217 ≥ t218 then ((splicerlaw25_awake.f).bind fun t222 => (some t222)) else (some false)) else (some false))) else (if (wrap64 ((Int.tmod (wrap64 (a0)) 97) - 64)) ≥ (wrap64 ((Int.tmod (wrap64 (a1)) 97) - 64)) then (if t217 ≥ t218 then ((splicerlaw25_awake.f).bind fun t223 => (some t223)) else (some false)) else (some false))))) = some r := by rw [if_neg (show ¬ (false = true) by decide)] at H; exact H
              clear H
              have H := H1
              clear H1
              obtain ⟨ji31, hji31⟩ : ∃ j_ : Int, (mn t217 t218) = j_ := ⟨_, rfl⟩
              replace H : (if (ji31) < (mn (wrap64 ((Int.tmod (wrap64 (a0)) 97) - 64)) (wrap64 ((Int.tmod (wrap64 (a1)) 97) - 64))) then (some false) else (if (mx t217 t218) > (mx (wrap64 ((Int.tmod (wrap64 (a0)) 97) - 64)) (wrap64 ((Int.tmod (wrap64 (a1)) 97) - 64))) then (some false) else (if (wrap64 ((Int.tmod (wrap64 (a0)) 97) - 64)) ≤ (wrap64 ((Int.tmod (wrap64 (a1)) 97) - 64)) then (if t217 ≤ t218 then ((splicerlaw25_awake.f).bind fun t221 => (some t221)) else (if (wrap64 ((Int.tmod (wrap64 (a0)) 97) - 64)) ≥ (wrap64 ((Int.tmod (wrap64 (a1)) 97) - 64)) then (if t217 ≥ t218 then ((splicerlaw25_awake.f).bind fun t222 => (some t222)) else (some false)) else (some false))) else (if (wrap64 ((Int.tmod (wrap64 (a0)) 97) - 64)) ≥ (wrap64 ((Int.tmod (wrap64 (a1)) 97) - 64)) then (if t217 ≥ t218 then ((splicerlaw25_awake.f).bind fun t223 => (some t223)) else (some false)) else (some false))))) = some r := by first | (rw [hji31] at H; exact H) | (simp only [hji31] at H ⊢; exact H)
              have hji31_ : (if t218 < t217 then t218 else t217) = ji31 := hji31
              obtain ⟨ji32, hji32⟩ : ∃ j_ : Int, (mn (wrap64 ((Int.tmod (wrap64 (a0)) 97) - 64)) (wrap64 ((Int.tmod (wrap64 (a1)) 97) - 64))) = j_ := ⟨_, rfl⟩
              replace H : (if (ji31) < (ji32) then (some false) else (if (mx t217 t218) > (mx (wrap64 ((Int.tmod (wrap64 (a0)) 97) - 64)) (wrap64 ((Int.tmod (wrap64 (a1)) 97) - 64))) then (some false) else (if (wrap64 ((Int.tmod (wrap64 (a0)) 97) - 64)) ≤ (wrap64 ((Int.tmod (wrap64 (a1)) 97) - 64)) then (if t217 ≤ t218 then ((splicerlaw25_awake.f).bind fun t221 => (some t221)) else (if (wrap64 ((Int.tmod (wrap64 (a0)) 97) - 64)) ≥ (wrap64 ((Int.tmod (wrap64 (a1)) 97) - 64)) then (if t217 ≥ t218 then ((splicerlaw25_awake.f).bind fun t222 => (some t222)) else (some false)) else (some false))) else (if (wrap64 ((Int.tmod (wrap64 (a0)) 97) - 64)) ≥ (wrap64 ((Int.tmod (wrap64 (a1)) 97) - 64)) then (if t217 ≥ t218 then ((splicerlaw25_awake.f).bind fun t223 => (some t223)) else (some false)) else (some false))))) = some r := by first | (rw [hji32] at H; exact H) | (simp only [hji32] at H ⊢; exact H)
              have hji32_ : (if (wrap64 ((Int.tmod (wrap64 (a1)) 97) - 64)) < (wrap64 ((Int.tmod (wrap64 (a0)) 97) - 64)) then (wrap64 ((Int.tmod (wrap64 (a1)) 97) - 64)) else (wrap64 ((Int.tmod (wrap64 (a0)) 97) - 64))) = ji32 := hji32
              by_cases c33 : (ji31) < (ji32)
              · rw [if_pos c33] at H
                have c33b0 : decide ((ji31) < (ji32)) = true := decide_eq_true c33
                clear c33
                obtain rfl := Option.some.inj H
                go_wp2
                go_ret
                exact ⟨by first | rfl | (simp [errW_none, errW_some] <;> rfl) | (simp only [← hji15, ← hji17, ← hji31, ← hji32]; first | rfl | (simp [errW_none, errW_some] <;> rfl)) | (simp [*, errW_none, errW_some] <;> rfl), by repeat (first | (with_reducible first | exact HB.out | apply below_alloc | apply pw_below_drewN | apply below_drew1) | exact HB.out)⟩
              · rw [if_neg c33] at H
                have c33b0 : decide ((ji31) < (ji32)) = false := decide_eq_false c33
                clear c33
                obtain ⟨ji34, hji34⟩ : ∃ j_ : Int, (mx t217 t218) = j_ := ⟨_, rfl⟩
                replace H : (if (ji34) > (mx (wrap64 ((Int.tmod (wrap64 (a0)) 97) - 64)) (wrap64 ((Int.tmod (wrap64 (a1)) 97) - 64))) then (some false) else (if (wrap64 ((Int.tmod (wrap64 (a0)) 97) - 64)) ≤ (wrap64 ((Int.tmod (wrap64 (a1)) 97) - 64)) then (if t217 ≤ t218 then ((splicerlaw25_awake.f).bind fun t221 => (some t221)) else (if (wrap64 ((Int.tmod (wrap64 (a0)) 97) - 64)) ≥ (wrap64 ((Int.tmod (wrap64 (a1)) 97) - 64)) then (if t217 ≥ t218 then ((splicerlaw25_awake.f).bind fun t222 => (some t222)) else (some false)) else (some false))) else (if (wrap64 ((Int.tmod (wrap64 (a0)) 97) - 64)) ≥ (wrap64 ((Int.tmod (wrap64 (a1)) 97) - 64)) then (if t217 ≥ t218 then ((splicerlaw25_awake.f).bind fun t223 => (some t223)) else (some false)) else (some false)))) = some r := by first | (rw [hji34] at H; exact H) | (simp only [hji34] at H ⊢; exact H)
                have hji34_ : (if t217 < t218 then t218 else t217) = ji34 := hji34
                obtain ⟨ji35, hji35⟩ : ∃ j_ : Int, (mx (wrap64 ((Int.tmod (wrap64 (a0)) 97) - 64)) (wrap64 ((Int.tmod (wrap64 (a1)) 97) - 64))) = j_ := ⟨_, rfl⟩
                replace H : (if (ji34) > (ji35) then (some false) else (if (wrap64 ((Int.tmod (wrap64 (a0)) 97) - 64)) ≤ (wrap64 ((Int.tmod (wrap64 (a1)) 97) - 64)) then (if t217 ≤ t218 then ((splicerlaw25_awake.f).bind fun t221 => (some t221)) else (if (wrap64 ((Int.tmod (wrap64 (a0)) 97) - 64)) ≥ (wrap64 ((Int.tmod (wrap64 (a1)) 97) - 64)) then (if t217 ≥ t218 then ((splicerlaw25_awake.f).bind fun t222 => (some t222)) else (some false)) else (some false))) else (if (wrap64 ((Int.tmod (wrap64 (a0)) 97) - 64)) ≥ (wrap64 ((Int.tmod (wrap64 (a1)) 97) - 64)) then (if t217 ≥ t218 then ((splicerlaw25_awake.f).bind fun t223 => (some t223)) else (some false)) else (some false)))) = some r := by first | (rw [hji35] at H; exact H) | (simp only [hji35] at H ⊢; exact H)
                have hji35_ : (if (wrap64 ((Int.tmod (wrap64 (a0)) 97) - 64)) < (wrap64 ((Int.tmod (wrap64 (a1)) 97) - 64)) then (wrap64 ((Int.tmod (wrap64 (a1)) 97) - 64)) else (wrap64 ((Int.tmod (wrap64 (a0)) 97) - 64))) = ji35 := hji35
                by_cases c36 : (ji34) > (ji35)
                · rw [if_pos c36] at H
                  have c36b0 : decide ((ji35) < (ji34)) = true := decide_eq_true c36
                  clear c36
                  obtain rfl := Option.some.inj H
                  go_wp2
                  go_ret
                  exact ⟨by first | rfl | (simp [errW_none, errW_some] <;> rfl) | (simp only [← hji15, ← hji17, ← hji31, ← hji32, ← hji34, ← hji35]; first | rfl | (simp [errW_none, errW_some] <;> rfl)) | (simp [*, errW_none, errW_some] <;> rfl), by repeat (first | (with_reducible first | exact HB.out | apply below_alloc | apply pw_below_drewN | apply below_drew1) | exact HB.out)⟩
                · rw [if_neg c36] at H
                  have c36b0 : decide ((ji35) < (ji34)) = false := decide_eq_false c36
                  clear c36
                  by_cases c37 : (wrap64 ((Int.tmod (wrap64 (a0)) 97) - 64)) ≤ (wrap64 ((Int.tmod (wrap64 (a1)) 97) - 64))
                  · rw [if_pos c37] at H
                    have c37b0 : decide ((wrap64 ((Int.tmod (wrap64 (a0)) 97) - 64)) ≤ (wrap64 ((Int.tmod (wrap64 (a1)) 97) - 64))) = true := decide_eq_true c37
                    clear c37
                    by_cases c38 : t217 ≤ t218
                    · rw [if_pos c38] at H
                      have c38b0 : decide (t217 ≤ t218) = true := decide_eq_true c38
                      clear c38
                      replace H := Option.bind_eq_some_iff.mp H
                      obtain ⟨t221, A390, H⟩ := H
                      replace H : (some t221) = some r := H
                      have A39 := Aside0.mk A390
                      clear A390
                      obtain rfl := Option.some.inj H
                      go_wp2_with (first | (go_at_call 29; (with_reducible refine (splicerlaw25_awake.calls  t221 _ A39.out).mono ?_); rintro e w40 ⟨rfl, hb⟩; have n0_ := Aside0.mk (below_step (by repeat (first | (with_reducible first | exact HB.out | apply below_alloc | apply pw_below_drewN | apply below_drew1) | exact HB.out)) hb); clear HB; have HB := n0_; clear n0_; (try clear hb); (try clear hb2); (try clear hk); (try clear hi)))
                      go_ret
                      exact ⟨by first | rfl | (simp [errW_none, errW_some] <;> rfl) | (simp only [← hji15, ← hji17, ← hji31, ← hji32, ← hji34, ← hji35]; first | rfl | (simp [errW_none, errW_some] <;> rfl)) | (simp [*, errW_none, errW_some] <;> rfl), by repeat (first | (with_reducible first | exact HB.out | apply below_alloc | apply pw_below_drewN | apply below_drew1) | exact HB.out)⟩
                    · rw [if_neg c38] at H
                      have c38b0 : decide (t217 ≤ t218) = false := decide_eq_false c38
                      clear c38
                      by_cases c41 : (wrap64 ((Int.tmod (wrap64 (a0)) 97) - 64)) ≥ (wrap64 ((Int.tmod (wrap64 (a1)) 97) - 64))
                      · rw [if_pos c41] at H
                        have c41b0 : decide ((wrap64 ((Int.tmod (wrap64 (a1)) 97) - 64)) ≤ (wrap64 ((Int.tmod (wrap64 (a0)) 97) - 64))) = true := decide_eq_true c41
                        clear c41
                        by_cases c42 : t217 ≥ t218
                        · rw [if_pos c42] at H
                          have c42b0 : decide (t218 ≤ t217) = true := decide_eq_true c42
                          clear c42
                          replace H := Option.bind_eq_some_iff.mp H
                          obtain ⟨t222, A430, H⟩ := H
                          replace H : (some t222) = some r := H
                          have A43 := Aside0.mk A430
                          clear A430
                          obtain rfl := Option.some.inj H
                          go_wp2_with (first | (go_at_call 29; (with_reducible refine (splicerlaw25_awake.calls  t222 _ A43.out).mono ?_); rintro e w44 ⟨rfl, hb⟩; have n0_ := Aside0.mk (below_step (by repeat (first | (with_reducible first | exact HB.out | apply below_alloc | apply pw_below_drewN | apply below_drew1) | exact HB.out)) hb); clear HB; have HB := n0_; clear n0_; (try clear hb); (try clear hb2); (try clear hk); (try clear hi)))
                          go_ret
                          exact ⟨by first | rfl | (simp [errW_none, errW_some] <;> rfl) | (simp only [← hji15, ← hji17, ← hji31, ← hji32, ← hji34, ← hji35]; first | rfl | (simp [errW_none, errW_some] <;> rfl)) | (simp [*, errW_none, errW_some] <;> rfl), by repeat (first | (with_reducible first | exact HB.out | apply below_alloc | apply pw_below_drewN | apply below_drew1) | exact HB.out)⟩
                        · rw [if_neg c42] at H
                          have c42b0 : decide (t218 ≤ t217) = false := decide_eq_false c42
                          clear c42
                          obtain rfl := Option.some.inj H
                          go_wp2
                          go_ret
                          exact ⟨by first | rfl | (simp [errW_none, errW_some] <;> rfl) | (simp only [← hji15, ← hji17, ← hji31, ← hji32, ← hji34, ← hji35]; first | rfl | (simp [errW_none, errW_some] <;> rfl)) | (simp [*, errW_none, errW_some] <;> rfl), by repeat (first | (with_reducible first | exact HB.out | apply below_alloc | apply pw_below_drewN | apply below_drew1) | exact HB.out)⟩
                      · rw [if_neg c41] at H
                        have c41b0 : decide ((wrap64 ((Int.tmod (wrap64 (a1)) 97) - 64)) ≤ (wrap64 ((Int.tmod (wrap64 (a0)) 97) - 64))) = false := decide_eq_false c41
                        clear c41
                        obtain rfl := Option.some.inj H
                        go_wp2
                        go_ret
                        exact ⟨by first | rfl | (simp [errW_none, errW_some] <;> rfl) | (simp only [← hji15, ← hji17, ← hji31, ← hji32, ← hji34, ← hji35]; first | rfl | (simp [errW_none, errW_some] <;> rfl)) | (simp [*, errW_none, errW_some] <;> rfl), by repeat (first | (with_reducible first | exact HB.out | apply below_alloc | apply pw_below_drewN | apply below_drew1) | exact HB.out)⟩
                  · rw [if_neg c37] at H
                    have c37b0 : decide ((wrap64 ((Int.tmod (wrap64 (a0)) 97) - 64)) ≤ (wrap64 ((Int.tmod (wrap64 (a1)) 97) - 64))) = false := decide_eq_false c37
                    clear c37
                    by_cases c45 : (wrap64 ((Int.tmod (wrap64 (a0)) 97) - 64)) ≥ (wrap64 ((Int.tmod (wrap64 (a1)) 97) - 64))
                    · rw [if_pos c45] at H
                      have c45b0 : decide ((wrap64 ((Int.tmod (wrap64 (a1)) 97) - 64)) ≤ (wrap64 ((Int.tmod (wrap64 (a0)) 97) - 64))) = true := decide_eq_true c45
                      clear c45
                      by_cases c46 : t217 ≥ t218
                      · rw [if_pos c46] at H
                        have c46b0 : decide (t218 ≤ t217) = true := decide_eq_true c46
                        clear c46
                        replace H := Option.bind_eq_some_iff.mp H
                        obtain ⟨t223, A470, H⟩ := H
                        replace H : (some t223) = some r := H
                        have A47 := Aside0.mk A470
                        clear A470
                        obtain rfl := Option.some.inj H
                        go_wp2_with (first | (go_at_call 29; (with_reducible refine (splicerlaw25_awake.calls  t223 _ A47.out).mono ?_); rintro e w48 ⟨rfl, hb⟩; have n0_ := Aside0.mk (below_step (by repeat (first | (with_reducible first | exact HB.out | apply below_alloc | apply pw_below_drewN | apply below_drew1) | exact HB.out)) hb); clear HB; have HB := n0_; clear n0_; (try clear hb); (try clear hb2); (try clear hk); (try clear hi)))
                        go_ret
                        exact ⟨by first | rfl | (simp [errW_none, errW_some] <;> rfl) | (simp only [← hji15, ← hji17, ← hji31, ← hji32, ← hji34, ← hji35]; first | rfl | (simp [errW_none, errW_some] <;> rfl)) | (simp [*, errW_none, errW_some] <;> rfl), by repeat (first | (with_reducible first | exact HB.out | apply below_alloc | apply pw_below_drewN | apply below_drew1) | exact HB.out)⟩
                      · rw [if_neg c46] at H
                        have c46b0 : decide (t218 ≤ t217) = false := decide_eq_false c46
                        clear c46
                        obtain rfl := Option.some.inj H
                        go_wp2
                        go_ret
                        exact ⟨by first | rfl | (simp [errW_none, errW_some] <;> rfl) | (simp only [← hji15, ← hji17, ← hji31, ← hji32, ← hji34, ← hji35]; first | rfl | (simp [errW_none, errW_some] <;> rfl)) | (simp [*, errW_none, errW_some] <;> rfl), by repeat (first | (with_reducible first | exact HB.out | apply below_alloc | apply pw_below_drewN | apply below_drew1) | exact HB.out)⟩
                    · rw [if_neg c45] at H
                      have c45b0 : decide ((wrap64 ((Int.tmod (wrap64 (a1)) 97) - 64)) ≤ (wrap64 ((Int.tmod (wrap64 (a0)) 97) - 64))) = false := decide_eq_false c45
                      clear c45
                      obtain rfl := Option.some.inj H
                      go_wp2
                      go_ret
                      exact ⟨by first | rfl | (simp [errW_none, errW_some] <;> rfl) | (simp only [← hji15, ← hji17, ← hji31, ← hji32, ← hji34, ← hji35]; first | rfl | (simp [errW_none, errW_some] <;> rfl)) | (simp [*, errW_none, errW_some] <;> rfl), by repeat (first | (with_reducible first | exact HB.out | apply below_alloc | apply pw_below_drewN | apply below_drew1) | exact HB.out)⟩

/-- THE ONE PURE STATEMENT of splicerlaw25_GainGoes: yours. -/
def splicerlaw25_GainGoes.Pure : Prop := ∀ (a0 : Int) (a1 : Int) (a2 : Int) (a3 : Int) (a4 : Int), (Lit.int .u8 a0).wf = true → (Lit.int .u8 a1).wf = true → (Lit.int .i64 a2).wf = true → (Lit.int .i64 a3).wf = true → (Lit.int .i64 a4).wf = true → ∃ k, splicerlaw25_GainGoes.f k a0 a1 a2 a3 a4 = some true
theorem splicerlaw25_GainGoes.walk (P : splicerlaw25_GainGoes.Pure) (a0 : Int) (a1 : Int) (a2 : Int) (a3 : Int) (a4 : Int) (w : World) (w0 : (Lit.int .u8 a0).wf = true) (w1 : (Lit.int .u8 a1).wf = true) (w2 : (Lit.int .i64 a2).wf = true) (w3 : (Lit.int .i64 a3).wf = true) (w4 : (Lit.int .i64 a4).wf = true) :
    Calls Try.prog 9 #[.int .u8 a0, .int .u8 a1, .int .i64 a2, .int .i64 a3, .int .i64 a4] w fun e w' => e = .returned (.bool true) ∧ Below w.heap.size w w' := by
  obtain ⟨k, h⟩ := P a0 a1 a2 a3 a4 w0 w1 w2 w3 w4
  refine (splicerlaw25_GainGoes.calls k a0 a1 a2 a3 a4 true w h).mono ?_
  rintro e w' ⟨rfl, hd⟩
  exact ⟨rfl, hd⟩

end Go.Proofs.Ytaoodgijapiipaa.S
