-- Written for this claim by a program of the session (myprint.py), out of the translation's own print; Lean checks it.
import Derived.Test.YtkidbmhmjoogiaaSx0
import Derived.Test.YtkidbmhmjoogiaaSx1
import Derived.Test.YtkidbmhmjoogiaaSx2
namespace Go.Proofs.Ytkidbmhmjoogiaa.S
open Go.RowKit Go.Proofs.YtkidbmhmjoogiaaW.PrintWords Go.Proofs.YtkidbmhmjoogiaaW.PrintLast Go.Proofs.YtkidbmhmjoogiaaW.PrintMore
attribute [local go_sem] max2_int min2_int max_two min_two max_three min_three max_four min_four   -- for this text's walks alone
set_option linter.unusedVariables false
set_option linter.unusedSimpArgs false

-- NOT PRINTED: function 41 (level_steps)

/-! ### level_Amp: function 32 -/
theorem level_steps.calls (w : World) : Calls Try.prog 41 #[] w fun e w' => e = .returned (.agg #[.int .i64 16777216, .int .i64 19951585, .int .i64 23726566, .int .i64 28215802]) ∧ Below w.heap.size w w' := by
  go_enter Try.func41, Try.ntmps41
  go_wp2
  refine bodyPost_ret (v := .agg #[.int .i64 16777216, .int .i64 19951585, .int .i64 23726566, .int .i64 28215802]) (by simp [results, Try.results41, go_sem]) rfl ⟨rfl, ?_⟩
  exact (Below.refl _ _).alloc (Nat.le_refl _) _

def level_quarter (f : Int) : Int := if f = 0 then 16777216 else if f = 1 then 19951585 else if f = 2 then 23726566 else 28215802
def level_Amp.f (a0 : Int) (a1 : Int) : Option Int :=
  if a0 < 1 then some 0 else if a0 > 23 then some 0 else if a1 < 0 then some 0 else if a1 > 3 then some 0 else num_Shr.f 5 (level_quarter a1) (wrap64 (24 - a0))
theorem level_Amp.calls (a0 : Int) (a1 : Int) (r : Int) (w : World) (h : level_Amp.f a0 a1 = some r) :
    Calls Try.prog 32 #[.int .i64 a0, .int .i64 a1] w fun e w' => e = .returned (.int .i64 r) ∧ Below w.heap.size w w' := by
  unfold level_Amp.f at h
  by_cases h1 : a0 < 1
  · rw [if_pos h1] at h
    obtain rfl := Option.some.inj h
    have d1 : decide (a0 < 1) = true := decide_eq_true h1
    clear h h1
    go_enter Try.func32, Try.ntmps32
    go_wp2
    go_ret
    exact ⟨rfl, Below.refl _ _⟩
  rw [if_neg h1] at h
  by_cases h2 : a0 > 23
  · rw [if_pos h2] at h
    obtain rfl := Option.some.inj h
    go_enter Try.func32, Try.ntmps32
    go_wp2
    go_ret
    exact ⟨rfl, Below.refl _ _⟩
  rw [if_neg h2] at h
  by_cases h3 : a1 < 0
  · rw [if_pos h3] at h
    obtain rfl := Option.some.inj h
    go_enter Try.func32, Try.ntmps32
    go_wp2
    go_ret
    exact ⟨rfl, Below.refl _ _⟩
  rw [if_neg h3] at h
  by_cases h4 : a1 > 3
  · rw [if_pos h4] at h
    obtain rfl := Option.some.inj h
    go_enter Try.func32, Try.ntmps32
    go_wp2
    go_ret
    exact ⟨rfl, Below.refl _ _⟩
  rw [if_neg h4] at h
  have hw : wrap64 (24 - a0) = 24 - a0 := by unfold wrap64; omega
  rw [hw] at h
  clear hw
  have H : ∀ q : Int, level_quarter a1 = q → num_Shr.f 5 q (24 - a0) = some r := fun q hq => by rw [← hq]; exact h
  clear h
  obtain rfl | rfl | rfl | rfl : a1 = 0 ∨ a1 = 1 ∨ a1 = 2 ∨ a1 = 3 := by omega
  all_goals
    have H1 := H _ rfl
    have H2 := Aside0.mk H1
    clear H H1 h3 h4
    go_enter Try.func32, Try.ntmps32
    go_wp2_with (first | (go_at_call 41; refine (level_steps.calls _).mono ?_; rintro e w1 ⟨rfl, hb⟩; have hz := hb.size) | (go_at_call 23; refine (num_Shr.calls 5 _ _ r _ H2.out).mono ?_; rintro e w2 ⟨rfl, hb2⟩))
    go_ret
    exact ⟨rfl, below_step (hb.alloc hz _) hb2⟩

/-! ### level_Find: function 30 -/
def level_Find.l0 : Nat → Int → Int → Int → Option (Int × Int)
  | 0, _, _, _ => none
  | k + 1, x0, x4, x5 => if (wrap64 (x5 - x4)) > 1 then ((level_Amp.f (wrap64 (Int.tdiv (wrap64 (Int.tdiv (wrap64 (x4 + x5)) 2)) 4)) (Int.tmod (wrap64 (Int.tdiv (wrap64 (x4 + x5)) 2)) 4)).bind fun t158 => (if t158 ≤ x0 then (level_Find.l0 k x0 (wrap64 (Int.tdiv (wrap64 (x4 + x5)) 2)) x5) else (level_Find.l0 k x0 x4 (wrap64 (Int.tdiv (wrap64 (x4 + x5)) 2))))) else (if x4 < 4 then (some (0, 0)) else (some (wrap64 (Int.tdiv x4 4), Int.tmod x4 4)))
def level_Find.f (k : Nat) (a0 : Int) : Option (Int × Int) := level_Find.l0 k a0 3 96
theorem level_Find.mono_l : ∀ k, (∀ y0 y1 y2, LeO (level_Find.l0 k y0 y1 y2) (level_Find.l0 (k + 1) y0 y1 y2))
  | 0 => fun _ _ _ r h => by simp [level_Find.l0] at h
  | k + 1 => by
    have ih0 := level_Find.mono_l k
    · intro y0 y1 y2
      unfold level_Find.l0
      repeat' first
      | (with_reducible exact ih0 _ _ _)
      | (with_reducible exact LeO.refl _)
      | (with_reducible exact LeO.none _)
      | (with_reducible refine LeO.ite ?_ ?_)
      | (with_reducible refine LeO.bind ?_ (fun _ => ?_))
      | exact ih0 _ _ _
      | exact LeO.none _
      | refine LeO.ite ?_ ?_
      | refine LeO.bind ?_ (fun _ => ?_)
theorem level_Find.mono : ∀ a0 k, LeO (level_Find.f k a0) (level_Find.f (k + 1) a0) := by
  intro a0 k
  have ih0 := level_Find.mono_l k
  unfold level_Find.f
  repeat' first
      | (with_reducible exact ih0 _ _ _)
      | (with_reducible exact LeO.refl _)
      | (with_reducible exact LeO.none _)
      | (with_reducible refine LeO.ite ?_ ?_)
      | (with_reducible refine LeO.bind ?_ (fun _ => ?_))
      | exact ih0 _ _ _
      | exact LeO.none _
      | refine LeO.ite ?_ ?_
      | refine LeO.bind ?_ (fun _ => ?_)
set_option maxHeartbeats 8000000 in
set_option maxRecDepth 100000 in
theorem level_Find.calls (k : Nat) (a0 : Int) (r1 : Int) (r2 : Int) (w : World) (h : level_Find.f k a0 = some (r1, r2)) :
    Calls Try.prog 30 #[.int .i64 a0] w fun e w' => e = .returned (.tuple #[.int .i64 r1, .int .i64 r2]) ∧ Below w.heap.size w w' := by
  have HB := Aside0.mk (Below.refl w.heap.size w)
  have H : (level_Find.l0 k a0 3 96) = some (r1, r2) := h
  clear h
  have H' := Aside0.mk H
  clear H
  go_enter Try.func30, Try.ntmps30
  go_wp2
  go_loopg [4, 5] k (fun kq v4 v5 w' => ∃ (x4_1 : Int) (x5_1 : Int), v4 = .int .i64 x4_1 ∧ v5 = .int .i64 x5_1 ∧ Aside0 (level_Find.l0 kq a0 x4_1 x5_1 = some (r1, r2)) ∧ Aside0 (kq ≤ k) ∧ Aside0 (Below w.heap.size w w'))
  case atStart => exact ⟨(3), (96), (by first | rfl | (simp; done) | (simp [*]; done)), (by first | rfl | (simp; done) | (simp [*]; done)), H', ⟨Nat.le_refl _⟩, ⟨by repeat (first | (with_reducible first | exact HB.out | apply below_alloc | apply pw_below_drewN | apply below_drew1) | exact HB.out)⟩⟩
  case round =>
    clear H'
    obtain ⟨x4_1, x5_1, rfl, rfl, HA, HK1, HB⟩ := hrel
    cases gk with
    | zero => exact absurd HA.out (by simp [level_Find.l0])
    | succ k1 =>
      have H := HA.out
      clear HA
      simp only [level_Find.l0] at H
      by_cases c2 : (wrap64 (x5_1 - x4_1)) > 1
      · rw [if_pos c2] at H
        have c2b0 : decide (1 < (wrap64 (x5_1 - x4_1))) = true := decide_eq_true c2
        clear c2
        replace H := Option.bind_eq_some_iff.mp H
        obtain ⟨t158, A30, H⟩ := H
        replace H : (if t158 ≤ a0 then (level_Find.l0 k1 a0 (wrap64 (Int.tdiv (wrap64 (x4_1 + x5_1)) 2)) x5_1) else (level_Find.l0 k1 a0 x4_1 (wrap64 (Int.tdiv (wrap64 (x4_1 + x5_1)) 2)))) = some (r1, r2) := H
        have A3 := Aside0.mk A30
        clear A30
        by_cases c4 : t158 ≤ a0
        · rw [if_pos c4] at H
          have c4b0 : decide (t158 ≤ a0) = true := decide_eq_true c4
          clear c4
          have H' := Aside0.mk H
          clear H
          go_wp2_with (first | ((with_reducible refine gate_callee (f := 32) rfl ?_); refine goesL_ (some 19) rfl rfl Try.func32 (by kernel_rfl) rfl #[.int .i64 (wrap64 (Int.tdiv (wrap64 (Int.tdiv (wrap64 (x4_1 + x5_1)) 2)) 4)), .int .i64 (Int.tmod (wrap64 (Int.tdiv (wrap64 (x4_1 + x5_1)) 2)) 4)] rfl (by (try simp only [List.map_toArray, List.map_cons, List.map_nil]); first | done | rfl | (simp only [List.length_drop, List.length_take]; rfl)) ?_; (with_reducible refine (level_Amp.calls (wrap64 (Int.tdiv (wrap64 (Int.tdiv (wrap64 (x4_1 + x5_1)) 2)) 4)) (Int.tmod (wrap64 (Int.tdiv (wrap64 (x4_1 + x5_1)) 2)) 4) t158 _ A3.out).mono ?_); rintro e w5 ⟨rfl, hb⟩; refine ⟨_, rfl, ?_⟩; have n0_ := Aside0.mk (below_step (by repeat (first | (with_reducible first | exact HB.out | apply below_alloc | apply pw_below_drewN | apply below_drew1) | exact HB.out)) hb); clear HB; have HB := n0_; clear n0_; (try clear hb); (try clear hb2); (try clear hk); (try clear hi)))
          go_roundg k1
          case measure => have := HK1.out; omega
          case rel => exact ⟨(wrap64 (Int.tdiv (wrap64 (x4_1 + x5_1)) 2)), (x5_1), (by first | rfl | (simp; done) | (simp [*]; done)), (by first | rfl | (simp; done) | (simp [*]; done)), H', ⟨by have := HK1.out; omega⟩, ⟨by repeat (first | (with_reducible first | exact HB.out | apply below_alloc | apply pw_below_drewN | apply below_drew1) | exact HB.out)⟩⟩
        · rw [if_neg c4] at H
          have c4b0 : decide (t158 ≤ a0) = false := decide_eq_false c4
          clear c4
          have H' := Aside0.mk H
          clear H
          go_wp2_with (first | ((with_reducible refine gate_callee (f := 32) rfl ?_); refine goesL_ (some 19) rfl rfl Try.func32 (by kernel_rfl) rfl #[.int .i64 (wrap64 (Int.tdiv (wrap64 (Int.tdiv (wrap64 (x4_1 + x5_1)) 2)) 4)), .int .i64 (Int.tmod (wrap64 (Int.tdiv (wrap64 (x4_1 + x5_1)) 2)) 4)] rfl (by (try simp only [List.map_toArray, List.map_cons, List.map_nil]); first | done | rfl | (simp only [List.length_drop, List.length_take]; rfl)) ?_; (with_reducible refine (level_Amp.calls (wrap64 (Int.tdiv (wrap64 (Int.tdiv (wrap64 (x4_1 + x5_1)) 2)) 4)) (Int.tmod (wrap64 (Int.tdiv (wrap64 (x4_1 + x5_1)) 2)) 4) t158 _ A3.out).mono ?_); rintro e w6 ⟨rfl, hb⟩; refine ⟨_, rfl, ?_⟩; have n0_ := Aside0.mk (below_step (by repeat (first | (with_reducible first | exact HB.out | apply below_alloc | apply pw_below_drewN | apply below_drew1) | exact HB.out)) hb); clear HB; have HB := n0_; clear n0_; (try clear hb); (try clear hb2); (try clear hk); (try clear hi)))
          go_roundg k1
          case measure => have := HK1.out; omega
          case rel => exact ⟨(x4_1), (wrap64 (Int.tdiv (wrap64 (x4_1 + x5_1)) 2)), (by first | rfl | (simp; done) | (simp [*]; done)), (by first | rfl | (simp; done) | (simp [*]; done)), H', ⟨by have := HK1.out; omega⟩, ⟨by repeat (first | (with_reducible first | exact HB.out | apply below_alloc | apply pw_below_drewN | apply below_drew1) | exact HB.out)⟩⟩
      · rw [if_neg c2] at H
        have c2b0 : decide (1 < (wrap64 (x5_1 - x4_1))) = false := decide_eq_false c2
        clear c2
        by_cases c7 : x4_1 < 4
        · rw [if_pos c7] at H
          have c7b0 : decide (x4_1 < 4) = true := decide_eq_true c7
          clear c7
          simp only [Option.some.injEq, Prod.mk.injEq] at H
          obtain ⟨rfl, rfl⟩ := H
          go_wp2
          go_ret2
          exact ⟨by first | rfl | (simp [errW_none, errW_some] <;> rfl) | (simp [*, errW_none, errW_some] <;> rfl), by repeat (first | (with_reducible first | exact HB.out | apply below_alloc | apply pw_below_drewN | apply below_drew1) | exact HB.out)⟩
        · rw [if_neg c7] at H
          have c7b0 : decide (x4_1 < 4) = false := decide_eq_false c7
          clear c7
          simp only [Option.some.injEq, Prod.mk.injEq] at H
          obtain ⟨rfl, rfl⟩ := H
          go_wp2
          go_ret2
          exact ⟨by first | rfl | (simp [errW_none, errW_some] <;> rfl) | (simp [*, errW_none, errW_some] <;> rfl), by repeat (first | (with_reducible first | exact HB.out | apply below_alloc | apply pw_below_drewN | apply below_drew1) | exact HB.out)⟩

/-! ### splicerref08_step: function 42 -/
def splicerref08_step.f (a0 : Int) : Option (Int) := if a0 = 0 then (some 16777216) else (if a0 = 1 then (some 19951585) else (if a0 = 2 then (some 23726566) else (some 28215802)))
set_option maxHeartbeats 8000000 in
set_option maxRecDepth 100000 in
theorem splicerref08_step.calls (a0 : Int) (r : Int) (w : World) (h : splicerref08_step.f a0 = some r) :
    Calls Try.prog 42 #[.int .i64 a0] w fun e w' => e = .returned (.int .i64 r) ∧ Drawn0 w w' := by
  have H : (if a0 = 0 then (some 16777216) else (if a0 = 1 then (some 19951585) else (if a0 = 2 then (some 23726566) else (some 28215802)))) = some r := h
  clear h
  by_cases c2 : a0 = 0
  · rw [if_pos c2] at H
    have c2b0 : (a0 == 0) = true := beq_iff_eq.mpr c2
    have c2b1 : (a0 != 0) = false := bne_eq_false_iff_eq.mpr c2
    clear c2
    obtain rfl := Option.some.inj H
    go_enter Try.func42, Try.ntmps42
    go_wp2
    go_ret
    exact ⟨by first | rfl | (simp; done) | (simp [*]; done), by repeat (first | exact Drawn0.refl _ | apply Drawn0.step)⟩
  · rw [if_neg c2] at H
    have c2b0 : (a0 == 0) = false := beq_eq_false_iff_ne.mpr c2
    have c2b1 : (a0 != 0) = true := bne_iff_ne.mpr c2
    by_cases c3 : a0 = 1
    · rw [if_pos c3] at H
      have c3b0 : (a0 == 1) = true := beq_iff_eq.mpr c3
      have c3b1 : (a0 != 1) = false := bne_eq_false_iff_eq.mpr c3
      clear c3
      obtain rfl := Option.some.inj H
      go_enter Try.func42, Try.ntmps42
      go_wp2
      go_ret
      exact ⟨by first | rfl | (simp; done) | (simp [*]; done), by repeat (first | exact Drawn0.refl _ | apply Drawn0.step)⟩
    · rw [if_neg c3] at H
      have c3b0 : (a0 == 1) = false := beq_eq_false_iff_ne.mpr c3
      have c3b1 : (a0 != 1) = true := bne_iff_ne.mpr c3
      by_cases c4 : a0 = 2
      · rw [if_pos c4] at H
        have c4b0 : (a0 == 2) = true := beq_iff_eq.mpr c4
        have c4b1 : (a0 != 2) = false := bne_eq_false_iff_eq.mpr c4
        clear c4
        obtain rfl := Option.some.inj H
        go_enter Try.func42, Try.ntmps42
        go_wp2
        go_ret
        exact ⟨by first | rfl | (simp; done) | (simp [*]; done), by repeat (first | exact Drawn0.refl _ | apply Drawn0.step)⟩
      · rw [if_neg c4] at H
        have c4b0 : (a0 == 2) = false := beq_eq_false_iff_ne.mpr c4
        have c4b1 : (a0 != 2) = true := bne_iff_ne.mpr c4
        obtain rfl := Option.some.inj H
        go_enter Try.func42, Try.ntmps42
        go_wp2
        go_ret
        exact ⟨by first | rfl | (simp; done) | (simp [*]; done), by repeat (first | exact Drawn0.refl _ | apply Drawn0.step)⟩

/-! ### splicerref08_Amp: function 33 -/
def splicerref08_Amp.j0 : Nat → Int → Int → Bool → Option (Int)
  | 0, _, _, _ => none
  | k + 1, x0, x1, x18 => if x18 = true then (some 0) else ((splicerref08_step.f x1).bind fun t159 => ((splicerref01_Shr.f k t159 (wrap64 (24 - x0))).bind fun t160 => (some t160)))
def splicerref08_Amp.f (k : Nat) (a0 : Int) (a1 : Int) : Option (Int) := if a0 < 1 then (splicerref08_Amp.j0 k a0 a1 true) else (if a0 > 23 then (splicerref08_Amp.j0 k a0 a1 true) else (if a1 < 0 then (splicerref08_Amp.j0 k a0 a1 true) else (splicerref08_Amp.j0 k a0 a1 (decide (a1 > 3)))))
theorem splicerref08_Amp.mono_l : ∀ k, (∀ y0 y1 y2, LeO (splicerref08_Amp.j0 k y0 y1 y2) (splicerref08_Amp.j0 (k + 1) y0 y1 y2))
  | 0 => fun _ _ _ r h => by simp [splicerref08_Amp.j0] at h
  | k + 1 => by
    have ih0 := splicerref08_Amp.mono_l k
    · intro y0 y1 y2
      unfold splicerref08_Amp.j0
      repeat' first
      | (with_reducible exact ih0 _ _ _)
      | (with_reducible exact splicerref01_Shr.mono _ _ _)
      | (with_reducible exact LeO.refl _)
      | (with_reducible exact LeO.none _)
      | (with_reducible refine LeO.ite ?_ ?_)
      | (with_reducible refine LeO.bind ?_ (fun _ => ?_))
      | exact ih0 _ _ _
      | exact splicerref01_Shr.mono _ _ _
      | exact LeO.none _
      | refine LeO.ite ?_ ?_
      | refine LeO.bind ?_ (fun _ => ?_)
theorem splicerref08_Amp.mono : ∀ a0 a1 k, LeO (splicerref08_Amp.f k a0 a1) (splicerref08_Amp.f (k + 1) a0 a1) := by
  intro a0 a1 k
  have ih0 := splicerref08_Amp.mono_l k
  unfold splicerref08_Amp.f
  repeat' first
      | (with_reducible exact ih0 _ _ _)
      | (with_reducible exact splicerref01_Shr.mono _ _ _)
      | (with_reducible exact LeO.refl _)
      | (with_reducible exact LeO.none _)
      | (with_reducible refine LeO.ite ?_ ?_)
      | (with_reducible refine LeO.bind ?_ (fun _ => ?_))
      | exact ih0 _ _ _
      | exact splicerref01_Shr.mono _ _ _
      | exact LeO.none _
      | refine LeO.ite ?_ ?_
      | refine LeO.bind ?_ (fun _ => ?_)
set_option maxHeartbeats 8000000 in
set_option maxRecDepth 100000 in
theorem splicerref08_Amp.calls (k : Nat) (a0 : Int) (a1 : Int) (r : Int) (w : World) (h : splicerref08_Amp.f k a0 a1 = some r) :
    Calls Try.prog 33 #[.int .i64 a0, .int .i64 a1] w fun e w' => e = .returned (.int .i64 r) ∧ Drawn0 w w' := by
  have H : (if a0 < 1 then (splicerref08_Amp.j0 k a0 a1 true) else (if a0 > 23 then (splicerref08_Amp.j0 k a0 a1 true) else (if a1 < 0 then (splicerref08_Amp.j0 k a0 a1 true) else (splicerref08_Amp.j0 k a0 a1 (decide (a1 > 3)))))) = some r := h
  clear h
  have HC3 := Aside0.mk H
  clear H
  go_enter Try.func33, Try.ntmps33
  go_upto_region 1 with (fail)
  go_cut [18] (fun v18 wc => ∃ (kq : Nat) (x18_2 : Bool), v18 = .bool x18_2 ∧ Aside0 (splicerref08_Amp.j0 kq a0 a1 x18_2 = some r) ∧ Aside0 (kq ≤ k) ∧ Drawn0 w wc)
  case first =>
    have H := HC3.out
    clear HC3
    by_cases c4 : a0 < 1
    · rw [if_pos c4] at H
      have c4b0 : decide (a0 < 1) = true := decide_eq_true c4
      clear c4
      (first | rw [c4b0] | (simp only [i64_w, i32_w]; rw [c4b0]) | skip)
      have H' := Aside0.mk H
      clear H
      go_wp2
      go_meet
      case rel => exact ⟨_, (true), (by first | rfl | (simp; done) | (simp [*]; done)), H', ⟨by first | omega | exact Nat.le_refl _⟩, by repeat (first | exact Drawn0.refl _ | apply Drawn0.step)⟩
    · rw [if_neg c4] at H
      have c4b0 : decide (a0 < 1) = false := decide_eq_false c4
      clear c4
      (first | rw [c4b0] | (simp only [i64_w, i32_w]; rw [c4b0]) | skip)
      by_cases c5 : a0 > 23
      · rw [if_pos c5] at H
        have c5b0 : decide (23 < a0) = true := decide_eq_true c5
        clear c5
        have H' := Aside0.mk H
        clear H
        go_wp2
        go_meet
        case rel => exact ⟨_, (true), (by first | rfl | (simp; done) | (simp [*]; done)), H', ⟨by first | omega | exact Nat.le_refl _⟩, by repeat (first | exact Drawn0.refl _ | apply Drawn0.step)⟩
      · rw [if_neg c5] at H
        have c5b0 : decide (23 < a0) = false := decide_eq_false c5
        clear c5
        by_cases c6 : a1 < 0
        · rw [if_pos c6] at H
          have c6b0 : decide (a1 < 0) = true := decide_eq_true c6
          clear c6
          have H' := Aside0.mk H
          clear H
          go_wp2
          go_meet
          case rel => exact ⟨_, (true), (by first | rfl | (simp; done) | (simp [*]; done)), H', ⟨by first | omega | exact Nat.le_refl _⟩, by repeat (first | exact Drawn0.refl _ | apply Drawn0.step)⟩
        · rw [if_neg c6] at H
          have c6b0 : decide (a1 < 0) = false := decide_eq_false c6
          clear c6
          have H' := Aside0.mk H
          clear H
          go_wp2
          go_meet
          case rel => exact ⟨_, (decide (a1 > 3)), (by first | rfl | (simp; done) | (simp [*]; done)), H', ⟨by first | omega | exact Nat.le_refl _⟩, by repeat (first | exact Drawn0.refl _ | apply Drawn0.step)⟩
  case rest =>
    clear HC3
    try clear p2
    try clear c3
    try clear c4
    try clear c4b0
    try clear c5
    try clear c5b0
    try clear c6
    try clear c6b0
    obtain ⟨kq, x18_2, rfl, HA, HJ2, ⟨mc2, rfl⟩⟩ := hcut
    cases kq with
    | zero => exact absurd HA.out (by simp [splicerref08_Amp.j0])
    | succ kj2 =>
      have H := HA.out
      clear HA
      simp only [splicerref08_Amp.j0] at H
      by_cases c7 : x18_2 = true
      · subst c7
        have H1 : (some 0) = some r := by rw [if_pos rfl] at H; exact H
        clear H
        have H := H1
        clear H1
        obtain rfl := Option.some.inj H
        go_wp2
        go_ret
        exact ⟨by first | rfl | (simp; done) | (simp [*]; done), by repeat (first | exact Drawn0.refl _ | apply Drawn0.step)⟩
      · replace c7 := Bool.eq_false_iff.mpr c7
        subst c7
        have H1 : ((splicerref08_step.f a1).bind fun t159 => ((splicerref01_Shr.f kj2 t159 (wrap64 (24 - a0))).bind fun t160 => (some t160))) = some r := by rw [if_neg (show ¬ (false = true) by decide)] at H; exact H
        clear H
        have H := H1
        clear H1
        replace H := Option.bind_eq_some_iff.mp H
        obtain ⟨t159, A80, H⟩ := H
        replace H : ((splicerref01_Shr.f kj2 t159 (wrap64 (24 - a0))).bind fun t160 => (some t160)) = some r := H
        have A8 := Aside0.mk A80
        clear A80
        replace H := Option.bind_eq_some_iff.mp H
        obtain ⟨t160, A90, H⟩ := H
        replace H : (some t160) = some r := H
        have A9 := Aside0.mk A90
        clear A90
        obtain rfl := Option.some.inj H
        go_wp2_with (first | ((with_reducible refine gate_callee (f := 42) rfl ?_); refine goesL_ (some 20) rfl rfl Try.func42 (by kernel_rfl) rfl #[.int .i64 a1] rfl (by (try simp only [List.map_toArray, List.map_cons, List.map_nil]); first | done | rfl | (simp only [List.length_drop, List.length_take]; rfl)) ?_; (with_reducible refine (splicerref08_step.calls a1 t159 _ A8.out).mono ?_); rintro e w' ⟨rfl, ⟨nd, rfl⟩⟩; refine ⟨_, rfl, ?_⟩) | ((with_reducible refine gate_callee (f := 24) rfl ?_); refine goesL_ (some 23) rfl rfl Try.func24 (by kernel_rfl) rfl #[.int .i64 t159, .int .i64 (wrap64 (24 - a0))] rfl (by (try simp only [List.map_toArray, List.map_cons, List.map_nil]); first | done | rfl | (simp only [List.length_drop, List.length_take]; rfl)) ?_; (with_reducible refine (splicerref01_Shr.calls kj2 t159 (wrap64 (24 - a0)) t160 _ A9.out).mono ?_); rintro e w' ⟨rfl, ⟨nd, rfl⟩⟩; refine ⟨_, rfl, ?_⟩))
        go_ret
        exact ⟨by first | rfl | (simp; done) | (simp [*]; done), by repeat (first | exact Drawn0.refl _ | apply Drawn0.step)⟩

/-! ### splicerref08_Find: function 31 -/
mutual
def splicerref08_Find.l0 : Nat → Int → Int → Option (Int × Int)
  | 0, _, _ => none
  | k + 1, x0, x4 => if x4 ≥ 1 then (splicerref08_Find.l1 k x0 x4 3) else (some (0, 0))
def splicerref08_Find.l1 : Nat → Int → Int → Int → Option (Int × Int)
  | 0, _, _, _ => none
  | k + 1, x0, x4, x5 => if x5 ≥ 0 then ((splicerref08_Amp.f k x4 x5).bind fun t161 => (if t161 ≤ x0 then (some (x4, x5)) else (splicerref08_Find.l1 k x0 x4 (wrap64 (x5 - 1))))) else (splicerref08_Find.l0 k x0 (wrap64 (x4 - 1)))
end
def splicerref08_Find.f (k : Nat) (a0 : Int) : Option (Int × Int) := splicerref08_Find.l0 k a0 23
theorem splicerref08_Find.mono_l : ∀ k, (∀ y0 y1, LeO (splicerref08_Find.l0 k y0 y1) (splicerref08_Find.l0 (k + 1) y0 y1)) ∧ (∀ y0 y1 y2, LeO (splicerref08_Find.l1 k y0 y1 y2) (splicerref08_Find.l1 (k + 1) y0 y1 y2))
  | 0 => ⟨fun _ _ r h => by simp [splicerref08_Find.l0] at h, fun _ _ _ r h => by simp [splicerref08_Find.l1] at h⟩
  | k + 1 => by
    obtain ⟨ih0, ih1⟩ := splicerref08_Find.mono_l k
    refine ⟨?_, ?_⟩
    · intro y0 y1
      unfold splicerref08_Find.l0
      repeat' first
      | (with_reducible exact ih0 _ _)
      | (with_reducible exact ih1 _ _ _)
      | (with_reducible exact splicerref08_Amp.mono _ _ _)
      | (with_reducible exact LeO.refl _)
      | (with_reducible exact LeO.none _)
      | (with_reducible refine LeO.ite ?_ ?_)
      | (with_reducible refine LeO.bind ?_ (fun _ => ?_))
      | exact ih0 _ _
      | exact ih1 _ _ _
      | exact splicerref08_Amp.mono _ _ _
      | exact LeO.none _
      | refine LeO.ite ?_ ?_
      | refine LeO.bind ?_ (fun _ => ?_)
    · intro y0 y1 y2
      unfold splicerref08_Find.l1
      repeat' first
      | (with_reducible exact ih0 _ _)
      | (with_reducible exact ih1 _ _ _)
      | (with_reducible exact splicerref08_Amp.mono _ _ _)
      | (with_reducible exact LeO.refl _)
      | (with_reducible exact LeO.none _)
      | (with_reducible refine LeO.ite ?_ ?_)
      | (with_reducible refine LeO.bind ?_ (fun _ => ?_))
      | exact ih0 _ _
      | exact ih1 _ _ _
      | exact splicerref08_Amp.mono _ _ _
      | exact LeO.none _
      | refine LeO.ite ?_ ?_
      | refine LeO.bind ?_ (fun _ => ?_)
theorem splicerref08_Find.mono : ∀ a0 k, LeO (splicerref08_Find.f k a0) (splicerref08_Find.f (k + 1) a0) := by
  intro a0 k
  obtain ⟨ih0, ih1⟩ := splicerref08_Find.mono_l k
  unfold splicerref08_Find.f
  repeat' first
      | (with_reducible exact ih0 _ _)
      | (with_reducible exact ih1 _ _ _)
      | (with_reducible exact splicerref08_Amp.mono _ _ _)
      | (with_reducible exact LeO.refl _)
      | (with_reducible exact LeO.none _)
      | (with_reducible refine LeO.ite ?_ ?_)
      | (with_reducible refine LeO.bind ?_ (fun _ => ?_))
      | exact ih0 _ _
      | exact ih1 _ _ _
      | exact splicerref08_Amp.mono _ _ _
      | exact LeO.none _
      | refine LeO.ite ?_ ?_
      | refine LeO.bind ?_ (fun _ => ?_)
set_option maxHeartbeats 8000000 in
set_option maxRecDepth 100000 in
theorem splicerref08_Find.calls (k : Nat) (a0 : Int) (r1 : Int) (r2 : Int) (w : World) (h : splicerref08_Find.f k a0 = some (r1, r2)) :
    Calls Try.prog 31 #[.int .i64 a0] w fun e w' => e = .returned (.tuple #[.int .i64 r1, .int .i64 r2]) ∧ Drawn0 w w' := by
  have H : (splicerref08_Find.l0 k a0 23) = some (r1, r2) := h
  clear h
  have H' := Aside0.mk H
  clear H
  go_enter Try.func31, Try.ntmps31
  go_wp2
  go_loopg [4] k (fun kq v4 w' => ∃ (x4_1 : Int), v4 = .int .i64 x4_1 ∧ Aside0 (splicerref08_Find.l0 kq a0 x4_1 = some (r1, r2)) ∧ Aside0 (kq ≤ k) ∧ Drawn0 w w')
  case atStart => exact ⟨(23), (by first | rfl | (simp; done) | (simp [*]; done)), H', ⟨Nat.le_refl _⟩, by repeat (first | exact Drawn0.refl _ | apply Drawn0.step)⟩
  case round =>
    clear H'
    obtain ⟨x4_1, rfl, HA, HK1, ⟨m1, rfl⟩⟩ := hrel
    cases gk with
    | zero => exact absurd HA.out (by simp [splicerref08_Find.l0])
    | succ k1 =>
      have H := HA.out
      clear HA
      simp only [splicerref08_Find.l0] at H
      by_cases c2 : x4_1 ≥ 1
      · rw [if_pos c2] at H
        have c2b0 : decide (1 ≤ x4_1) = true := decide_eq_true c2
        clear c2
        have H' := Aside0.mk H
        clear H
        go_wp2
        go_loopg [5] k1 (fun kq v5 w' => ∃ (x5_2 : Int), v5 = .int .i64 x5_2 ∧ Aside0 (splicerref08_Find.l1 kq a0 x4_1 x5_2 = some (r1, r2)) ∧ Aside0 (kq ≤ k1) ∧ Drawn0 w w')
        case atStart => exact ⟨(3), (by first | rfl | (simp; done) | (simp [*]; done)), H', ⟨Nat.le_refl _⟩, by repeat (first | exact Drawn0.refl _ | apply Drawn0.step)⟩
        case round =>
          clear H'
          try clear c2
          try clear c2b0
          try clear p2
          obtain ⟨x5_2, rfl, HA, HK2, ⟨m2, rfl⟩⟩ := hrel
          cases gk with
          | zero => exact absurd HA.out (by simp [splicerref08_Find.l1])
          | succ k2 =>
            have H := HA.out
            clear HA
            simp only [splicerref08_Find.l1] at H
            by_cases c3 : x5_2 ≥ 0
            · rw [if_pos c3] at H
              have c3b0 : decide (0 ≤ x5_2) = true := decide_eq_true c3
              clear c3
              replace H := Option.bind_eq_some_iff.mp H
              obtain ⟨t161, A40, H⟩ := H
              replace H : (if t161 ≤ a0 then (some (x4_1, x5_2)) else (splicerref08_Find.l1 k2 a0 x4_1 (wrap64 (x5_2 - 1)))) = some (r1, r2) := H
              have A4 := Aside0.mk A40
              clear A40
              by_cases c5 : t161 ≤ a0
              · rw [if_pos c5] at H
                have c5b0 : decide (t161 ≤ a0) = true := decide_eq_true c5
                clear c5
                simp only [Option.some.injEq, Prod.mk.injEq] at H
                obtain ⟨rfl, rfl⟩ := H
                go_wp2_with (first | ((with_reducible refine gate_callee (f := 33) rfl ?_); refine goesL_ (some 16) rfl rfl Try.func33 (by kernel_rfl) rfl #[.int .i64 x4_1, .int .i64 x5_2] rfl (by (try simp only [List.map_toArray, List.map_cons, List.map_nil]); first | done | rfl | (simp only [List.length_drop, List.length_take]; rfl)) ?_; (with_reducible refine (splicerref08_Amp.calls k2 x4_1 x5_2 t161 _ A4.out).mono ?_); rintro e w' ⟨rfl, ⟨nd, rfl⟩⟩; refine ⟨_, rfl, ?_⟩))
                go_ret2
                exact ⟨by first | rfl | (simp; done) | (simp [*]; done), by repeat (first | exact Drawn0.refl _ | apply Drawn0.step)⟩
              · rw [if_neg c5] at H
                have c5b0 : decide (t161 ≤ a0) = false := decide_eq_false c5
                clear c5
                have H' := Aside0.mk H
                clear H
                go_wp2_with (first | ((with_reducible refine gate_callee (f := 33) rfl ?_); refine goesL_ (some 16) rfl rfl Try.func33 (by kernel_rfl) rfl #[.int .i64 x4_1, .int .i64 x5_2] rfl (by (try simp only [List.map_toArray, List.map_cons, List.map_nil]); first | done | rfl | (simp only [List.length_drop, List.length_take]; rfl)) ?_; (with_reducible refine (splicerref08_Amp.calls k2 x4_1 x5_2 t161 _ A4.out).mono ?_); rintro e w' ⟨rfl, ⟨nd, rfl⟩⟩; refine ⟨_, rfl, ?_⟩))
                go_roundg k2
                case measure => have := HK1.out; have := HK2.out; omega
                case rel => exact ⟨(wrap64 (x5_2 - 1)), (by first | rfl | (simp; done) | (simp [*]; done)), H', ⟨by have := HK1.out; have := HK2.out; omega⟩, by repeat (first | exact Drawn0.refl _ | apply Drawn0.step)⟩
            · rw [if_neg c3] at H
              have c3b0 : decide (0 ≤ x5_2) = false := decide_eq_false c3
              clear c3
              have H' := Aside0.mk H
              clear H
              go_wp2
              go_roundg k2
              case measure => have := HK1.out; have := HK2.out; omega
              case rel => exact ⟨(wrap64 (x4_1 - 1)), (by first | rfl | (simp; done) | (simp [*]; done)), H', ⟨by have := HK1.out; have := HK2.out; omega⟩, by repeat (first | exact Drawn0.refl _ | apply Drawn0.step)⟩
      · rw [if_neg c2] at H
        have c2b0 : decide (1 ≤ x4_1) = false := decide_eq_false c2
        clear c2
        simp only [Option.some.injEq, Prod.mk.injEq] at H
        obtain ⟨rfl, rfl⟩ := H
        go_wp2
        go_ret2
        exact ⟨by first | rfl | (simp; done) | (simp [*]; done), by repeat (first | exact Drawn0.refl _ | apply Drawn0.step)⟩

/-! ### level_Gain: function 34 -/
/-- How loud a frame is. -/
def level_Gain.f (a0 : Int) : Option Int :=
  if a0 < -64 then some 0 else if a0 > 32 then some 0 else num_Shr.f 5 (level_quarter (a0 % 4)) (wrap64 (8 - a0 / 4))
theorem level_Gain.mod (a0 : Int) (h1 : -64 ≤ a0) (h2 : a0 ≤ 32) : num_Mod.f a0 4 = some (a0 / 4, a0 % 4) := by
  have t := Int.tmod_eq_emod (a := a0) (b := 4)
  have d := Int.tdiv_eq_ediv (a := a0) (b := 4)
  unfold num_Mod.f wrap64
  by_cases h0 : 0 ≤ a0
  · have e1 : a0.tmod 4 = a0 % 4 := Int.tmod_eq_emod_of_nonneg h0
    have e2 : a0.tdiv 4 = a0 / 4 := Int.tdiv_eq_ediv_of_nonneg h0
    rw [e1, e2]
    repeat' split
    all_goals (first | omega | (congr 2 <;> omega))
  · have s4 : (4 : Int).sign = 1 := rfl
    have n4 : (((4 : Int).natAbs : Nat) : Int) = 4 := rfl
    rw [s4] at d
    by_cases hd : (4 : Int) ∣ a0
    · rw [if_pos (.inr hd)] at t d
      have := Int.emod_eq_zero_of_dvd hd
      rw [t, d]
      repeat' split
      all_goals (first | omega | (congr 2 <;> omega))
    · rw [if_neg (by intro h; rcases h with h | h; exact h0 h; exact hd h)] at t d
      rw [n4] at t
      have : a0 % 4 ≠ 0 := fun h => hd (Int.dvd_of_emod_eq_zero h)
      rw [t, d]
      repeat' split
      all_goals (first | omega | (congr 2 <;> omega))
theorem level_Gain.calls (a0 : Int) (r : Int) (w : World) (h : level_Gain.f a0 = some r) :
    Calls Try.prog 34 #[.int .i64 a0] w fun e w' => e = .returned (.int .i64 r) ∧ Below w.heap.size w w' := by
  unfold level_Gain.f at h
  by_cases h1 : a0 < -64
  · rw [if_pos h1] at h
    obtain rfl := Option.some.inj h
    go_enter Try.func34, Try.ntmps34
    go_wp2
    go_ret
    exact ⟨rfl, Below.refl _ _⟩
  rw [if_neg h1] at h
  by_cases h2 : a0 > 32
  · rw [if_pos h2] at h
    obtain rfl := Option.some.inj h
    go_enter Try.func34, Try.ntmps34
    go_wp2
    go_ret
    exact ⟨rfl, Below.refl _ _⟩
  rw [if_neg h2] at h
  have hw : wrap64 (8 - a0 / 4) = 8 - a0 / 4 := by unfold wrap64; omega
  rw [hw] at h
  clear hw
  have hm := Aside0.mk (level_Gain.mod a0 (by omega) (by omega))
  have hq1 : -16 ≤ a0 / 4 := by omega
  have hq2 : a0 / 4 ≤ 8 := by omega
  have hr1 : 0 ≤ a0 % 4 := by omega
  have hr2 : a0 % 4 ≤ 3 := by omega
  generalize a0 / 4 = q at *
  generalize a0 % 4 = f at *
  have H : ∀ z : Int, level_quarter f = z → num_Shr.f 5 z (8 - q) = some r := fun z hz => by rw [← hz]; exact h
  clear h
  obtain rfl | rfl | rfl | rfl : f = 0 ∨ f = 1 ∨ f = 2 ∨ f = 3 := by omega
  all_goals
    have H1 := H _ rfl
    have H2 := Aside0.mk H1
    clear H H1 hr1 hr2
    go_enter Try.func34, Try.ntmps34
    go_wp2_with (first | (go_at_call 19; refine (num_Mod.calls _ _ _ _ _ hm.out).mono ?_; rintro e w0 ⟨rfl, ⟨nd, rfl⟩⟩) | (go_at_call 41; refine (level_steps.calls _).mono ?_; rintro e w1 ⟨rfl, hb⟩; have hz := hb.size) | (go_at_call 23; refine (num_Shr.calls 5 _ _ r _ H2.out).mono ?_; rintro e w2 ⟨rfl, hb2⟩))
    go_ret
    exact ⟨rfl, below_step ((below_step (pw_below_drewN (Below.refl _ w) nd) hb).alloc hz _) hb2⟩

/-! ### splicerref08_Gain: function 35 -/
def splicerref08_Gain.j0 : Nat → Int → Bool → Option (Int)
  | 0, _, _ => none
  | k + 1, x0, x10 => if x10 = true then (some 0) else ((splicerref01_Mod.f x0 4).bind fun bt162 => ((splicerref08_step.f bt162.2).bind fun t164 => ((splicerref01_Shr.f k t164 (wrap64 (8 - bt162.1))).bind fun t165 => (some t165))))
def splicerref08_Gain.f (k : Nat) (a0 : Int) : Option (Int) := if a0 < (-64) then (splicerref08_Gain.j0 k a0 true) else (splicerref08_Gain.j0 k a0 (decide (a0 > 32)))
theorem splicerref08_Gain.mono_l : ∀ k, (∀ y0 y1, LeO (splicerref08_Gain.j0 k y0 y1) (splicerref08_Gain.j0 (k + 1) y0 y1))
  | 0 => fun _ _ r h => by simp [splicerref08_Gain.j0] at h
  | k + 1 => by
    have ih0 := splicerref08_Gain.mono_l k
    · intro y0 y1
      unfold splicerref08_Gain.j0
      repeat' first
      | (with_reducible exact ih0 _ _)
      | (with_reducible exact splicerref01_Shr.mono _ _ _)
      | (with_reducible exact LeO.refl _)
      | (with_reducible exact LeO.none _)
      | (with_reducible refine LeO.ite ?_ ?_)
      | (with_reducible refine LeO.bind ?_ (fun _ => ?_))
      | exact ih0 _ _
      | exact splicerref01_Shr.mono _ _ _
      | exact LeO.none _
      | refine LeO.ite ?_ ?_
      | refine LeO.bind ?_ (fun _ => ?_)
theorem splicerref08_Gain.mono : ∀ a0 k, LeO (splicerref08_Gain.f k a0) (splicerref08_Gain.f (k + 1) a0) := by
  intro a0 k
  have ih0 := splicerref08_Gain.mono_l k
  unfold splicerref08_Gain.f
  repeat' first
      | (with_reducible exact ih0 _ _)
      | (with_reducible exact splicerref01_Shr.mono _ _ _)
      | (with_reducible exact LeO.refl _)
      | (with_reducible exact LeO.none _)
      | (with_reducible refine LeO.ite ?_ ?_)
      | (with_reducible refine LeO.bind ?_ (fun _ => ?_))
      | exact ih0 _ _
      | exact splicerref01_Shr.mono _ _ _
      | exact LeO.none _
      | refine LeO.ite ?_ ?_
      | refine LeO.bind ?_ (fun _ => ?_)
set_option maxHeartbeats 8000000 in
set_option maxRecDepth 100000 in
theorem splicerref08_Gain.calls (k : Nat) (a0 : Int) (r : Int) (w : World) (h : splicerref08_Gain.f k a0 = some r) :
    Calls Try.prog 35 #[.int .i64 a0] w fun e w' => e = .returned (.int .i64 r) ∧ Drawn0 w w' := by
  have H : (if a0 < (-64) then (splicerref08_Gain.j0 k a0 true) else (splicerref08_Gain.j0 k a0 (decide (a0 > 32)))) = some r := h
  clear h
  have HC2 := Aside0.mk H
  clear H
  go_enter Try.func35, Try.ntmps35
  go_upto_region 1 with (fail)
  go_cut [10] (fun v10 wc => ∃ (kq : Nat) (x10_1 : Bool), v10 = .bool x10_1 ∧ Aside0 (splicerref08_Gain.j0 kq a0 x10_1 = some r) ∧ Aside0 (kq ≤ k) ∧ Drawn0 w wc)
  case first =>
    have H := HC2.out
    clear HC2
    by_cases c3 : a0 < (-64)
    · rw [if_pos c3] at H
      have c3b0 : decide (a0 < (-64)) = true := decide_eq_true c3
      clear c3
      (first | rw [c3b0] | (simp only [i64_w, i32_w]; rw [c3b0]) | skip)
      have H' := Aside0.mk H
      clear H
      go_wp2
      go_meet
      case rel => exact ⟨_, (true), (by first | rfl | (simp; done) | (simp [*]; done)), H', ⟨by first | omega | exact Nat.le_refl _⟩, by repeat (first | exact Drawn0.refl _ | apply Drawn0.step)⟩
    · rw [if_neg c3] at H
      have c3b0 : decide (a0 < (-64)) = false := decide_eq_false c3
      clear c3
      (first | rw [c3b0] | (simp only [i64_w, i32_w]; rw [c3b0]) | skip)
      have H' := Aside0.mk H
      clear H
      go_wp2
      go_meet
      case rel => exact ⟨_, (decide (a0 > 32)), (by first | rfl | (simp; done) | (simp [*]; done)), H', ⟨by first | omega | exact Nat.le_refl _⟩, by repeat (first | exact Drawn0.refl _ | apply Drawn0.step)⟩
  case rest =>
    clear HC2
    try clear p2
    try clear c3
    try clear c3b0
    obtain ⟨kq, x10_1, rfl, HA, HJ1, ⟨mc1, rfl⟩⟩ := hcut
    cases kq with
    | zero => exact absurd HA.out (by simp [splicerref08_Gain.j0])
    | succ kj1 =>
      have H := HA.out
      clear HA
      simp only [splicerref08_Gain.j0] at H
      by_cases c4 : x10_1 = true
      · subst c4
        have H1 : (some 0) = some r := by rw [if_pos rfl] at H; exact H
        clear H
        have H := H1
        clear H1
        obtain rfl := Option.some.inj H
        go_wp2
        go_ret
        exact ⟨by first | rfl | (simp; done) | (simp [*]; done), by repeat (first | exact Drawn0.refl _ | apply Drawn0.step)⟩
      · replace c4 := Bool.eq_false_iff.mpr c4
        subst c4
        have H1 : ((splicerref01_Mod.f a0 4).bind fun bt162 => ((splicerref08_step.f bt162.2).bind fun t164 => ((splicerref01_Shr.f kj1 t164 (wrap64 (8 - bt162.1))).bind fun t165 => (some t165)))) = some r := by rw [if_neg (show ¬ (false = true) by decide)] at H; exact H
        clear H
        have H := H1
        clear H1
        replace H := Option.bind_eq_some_iff.mp H
        obtain ⟨⟨t162, t163⟩, A50, H⟩ := H
        replace H : ((splicerref08_step.f t163).bind fun t164 => ((splicerref01_Shr.f kj1 t164 (wrap64 (8 - t162))).bind fun t165 => (some t165))) = some r := H
        have A5 := Aside0.mk A50
        clear A50
        replace H := Option.bind_eq_some_iff.mp H
        obtain ⟨t164, A60, H⟩ := H
        replace H : ((splicerref01_Shr.f kj1 t164 (wrap64 (8 - t162))).bind fun t165 => (some t165)) = some r := H
        have A6 := Aside0.mk A60
        clear A60
        replace H := Option.bind_eq_some_iff.mp H
        obtain ⟨t165, A70, H⟩ := H
        replace H : (some t165) = some r := H
        have A7 := Aside0.mk A70
        clear A70
        obtain rfl := Option.some.inj H
        go_wp2_with (first | ((with_reducible refine gate_callee (f := 20) rfl ?_); refine goesL_ (some 13) rfl rfl Try.func20 (by kernel_rfl) rfl #[.int .i64 a0, .int .i64 4] rfl (by (try simp only [List.map_toArray, List.map_cons, List.map_nil]); first | done | rfl | (simp only [List.length_drop, List.length_take]; rfl)) ?_; (with_reducible refine (splicerref01_Mod.calls a0 4 t162 t163 _ A5.out).mono ?_); rintro e w' ⟨rfl, ⟨nd, rfl⟩⟩; refine ⟨_, rfl, ?_⟩) | ((with_reducible refine gate_callee (f := 42) rfl ?_); refine goesL_ (some 17) rfl rfl Try.func42 (by kernel_rfl) rfl #[.int .i64 t163] rfl (by (try simp only [List.map_toArray, List.map_cons, List.map_nil]); first | done | rfl | (simp only [List.length_drop, List.length_take]; rfl)) ?_; (with_reducible refine (splicerref08_step.calls t163 t164 _ A6.out).mono ?_); rintro e w' ⟨rfl, ⟨nd, rfl⟩⟩; refine ⟨_, rfl, ?_⟩) | ((with_reducible refine gate_callee (f := 24) rfl ?_); refine goesL_ (some 20) rfl rfl Try.func24 (by kernel_rfl) rfl #[.int .i64 t164, .int .i64 (wrap64 (8 - t162))] rfl (by (try simp only [List.map_toArray, List.map_cons, List.map_nil]); first | done | rfl | (simp only [List.length_drop, List.length_take]; rfl)) ?_; (with_reducible refine (splicerref01_Shr.calls kj1 t164 (wrap64 (8 - t162)) t165 _ A7.out).mono ?_); rintro e w' ⟨rfl, ⟨nd, rfl⟩⟩; refine ⟨_, rfl, ?_⟩))
        go_ret
        exact ⟨by first | rfl | (simp; done) | (simp [*]; done), by repeat (first | exact Drawn0.refl _ | apply Drawn0.step)⟩

/-! ### level_Apply: function 36 -/
def level_Apply.j0 : Nat → Int → Int → Bool → Option (Int)
  | 0, _, _, _ => none
  | k + 1, x0, x1, x10 => if x10 = true then (some 0) else ((level_Gain.f x1).bind fun t166 => ((num_Shr.f k (wrap64 (x0 * t166)) 16).bind fun t167 => ((num_Sat.f t167).bind fun t168 => (some t168))))
def level_Apply.f (k : Nat) (a0 : Int) (a1 : Int) : Option (Int) := if a0 < (-1073741824) then (level_Apply.j0 k a0 a1 true) else (level_Apply.j0 k a0 a1 (decide (a0 > 1073741824)))
theorem level_Apply.mono_l : ∀ k, (∀ y0 y1 y2, LeO (level_Apply.j0 k y0 y1 y2) (level_Apply.j0 (k + 1) y0 y1 y2))
  | 0 => fun _ _ _ r h => by simp [level_Apply.j0] at h
  | k + 1 => by
    have ih0 := level_Apply.mono_l k
    · intro y0 y1 y2
      unfold level_Apply.j0
      repeat' first
      | (with_reducible exact ih0 _ _ _)
      | (with_reducible exact num_Shr.mono _ _ _)
      | (with_reducible exact LeO.refl _)
      | (with_reducible exact LeO.none _)
      | (with_reducible refine LeO.ite ?_ ?_)
      | (with_reducible refine LeO.bind ?_ (fun _ => ?_))
      | exact ih0 _ _ _
      | exact num_Shr.mono _ _ _
      | exact LeO.none _
      | refine LeO.ite ?_ ?_
      | refine LeO.bind ?_ (fun _ => ?_)
theorem level_Apply.mono : ∀ a0 a1 k, LeO (level_Apply.f k a0 a1) (level_Apply.f (k + 1) a0 a1) := by
  intro a0 a1 k
  have ih0 := level_Apply.mono_l k
  unfold level_Apply.f
  repeat' first
      | (with_reducible exact ih0 _ _ _)
      | (with_reducible exact num_Shr.mono _ _ _)
      | (with_reducible exact LeO.refl _)
      | (with_reducible exact LeO.none _)
      | (with_reducible refine LeO.ite ?_ ?_)
      | (with_reducible refine LeO.bind ?_ (fun _ => ?_))
      | exact ih0 _ _ _
      | exact num_Shr.mono _ _ _
      | exact LeO.none _
      | refine LeO.ite ?_ ?_
      | refine LeO.bind ?_ (fun _ => ?_)
set_option maxHeartbeats 8000000 in
set_option maxRecDepth 100000 in
theorem level_Apply.calls (k : Nat) (a0 : Int) (a1 : Int) (r : Int) (w : World) (h : level_Apply.f k a0 a1 = some r) :
    Calls Try.prog 36 #[.int .i64 a0, .int .i64 a1] w fun e w' => e = .returned (.int .i64 r) ∧ Below w.heap.size w w' := by
  have HB := Aside0.mk (Below.refl w.heap.size w)
  have H : (if a0 < (-1073741824) then (level_Apply.j0 k a0 a1 true) else (level_Apply.j0 k a0 a1 (decide (a0 > 1073741824)))) = some r := h
  clear h
  have HC3 := Aside0.mk H
  clear H
  go_enter Try.func36, Try.ntmps36
  go_upto_region 1 with (fail)
  go_cut [10] (fun v10 wc => ∃ (kq : Nat) (x10_2 : Bool), v10 = .bool x10_2 ∧ Aside0 (level_Apply.j0 kq a0 a1 x10_2 = some r) ∧ Aside0 (kq ≤ k) ∧ Aside0 (Below w.heap.size w wc))
  case first =>
    have H := HC3.out
    clear HC3
    by_cases c4 : a0 < (-1073741824)
    · rw [if_pos c4] at H
      have c4b0 : decide (a0 < (-1073741824)) = true := decide_eq_true c4
      clear c4
      (first | rw [c4b0] | (simp only [i64_w, i32_w]; rw [c4b0]) | skip)
      have H' := Aside0.mk H
      clear H
      go_wp2
      go_meet
      case rel => exact ⟨_, (true), (by first | rfl | (simp; done) | (simp [*]; done)), H', ⟨by first | omega | exact Nat.le_refl _⟩, ⟨by repeat (first | (with_reducible first | exact HB.out | apply below_alloc | apply pw_below_drewN | apply below_drew1) | exact HB.out)⟩⟩
    · rw [if_neg c4] at H
      have c4b0 : decide (a0 < (-1073741824)) = false := decide_eq_false c4
      clear c4
      (first | rw [c4b0] | (simp only [i64_w, i32_w]; rw [c4b0]) | skip)
      have H' := Aside0.mk H
      clear H
      go_wp2
      go_meet
      case rel => exact ⟨_, (decide (a0 > 1073741824)), (by first | rfl | (simp; done) | (simp [*]; done)), H', ⟨by first | omega | exact Nat.le_refl _⟩, ⟨by repeat (first | (with_reducible first | exact HB.out | apply below_alloc | apply pw_below_drewN | apply below_drew1) | exact HB.out)⟩⟩
  case rest =>
    clear HC3
    try clear p2
    try clear c3
    try clear c4
    try clear c4b0
    obtain ⟨kq, x10_2, rfl, HA, HJ2, HB⟩ := hcut
    cases kq with
    | zero => exact absurd HA.out (by simp [level_Apply.j0])
    | succ kj2 =>
      have H := HA.out
      clear HA
      simp only [level_Apply.j0] at H
      by_cases c5 : x10_2 = true
      · subst c5
        have H1 : (some 0) = some r := by rw [if_pos rfl] at H; exact H
        clear H
        have H := H1
        clear H1
        obtain rfl := Option.some.inj H
        go_wp2
        go_ret
        exact ⟨by first | rfl | (simp [errW_none, errW_some] <;> rfl) | (simp [*, errW_none, errW_some] <;> rfl), by repeat (first | (with_reducible first | exact HB.out | apply below_alloc | apply pw_below_drewN | apply below_drew1) | exact HB.out)⟩
      · replace c5 := Bool.eq_false_iff.mpr c5
        subst c5
        have H1 : ((level_Gain.f a1).bind fun t166 => ((num_Shr.f kj2 (wrap64 (a0 * t166)) 16).bind fun t167 => ((num_Sat.f t167).bind fun t168 => (some t168)))) = some r := by rw [if_neg (show ¬ (false = true) by decide)] at H; exact H
        clear H
        have H := H1
        clear H1
        replace H := Option.bind_eq_some_iff.mp H
        obtain ⟨t166, A60, H⟩ := H
        replace H : ((num_Shr.f kj2 (wrap64 (a0 * t166)) 16).bind fun t167 => ((num_Sat.f t167).bind fun t168 => (some t168))) = some r := H
        have A6 := Aside0.mk A60
        clear A60
        replace H := Option.bind_eq_some_iff.mp H
        obtain ⟨t167, A70, H⟩ := H
        replace H : ((num_Sat.f t167).bind fun t168 => (some t168)) = some r := H
        have A7 := Aside0.mk A70
        clear A70
        replace H := Option.bind_eq_some_iff.mp H
        obtain ⟨t168, A80, H⟩ := H
        replace H : (some t168) = some r := H
        have A8 := Aside0.mk A80
        clear A80
        obtain rfl := Option.some.inj H
        go_wp2_with (first | ((with_reducible refine gate_callee (f := 34) rfl ?_); refine goesL_ (some 13) rfl rfl Try.func34 (by kernel_rfl) rfl #[.int .i64 a1] rfl (by (try simp only [List.map_toArray, List.map_cons, List.map_nil]); first | done | rfl | (simp only [List.length_drop, List.length_take]; rfl)) ?_; (with_reducible refine (level_Gain.calls a1 t166 _ A6.out).mono ?_); rintro e w9 ⟨rfl, hb⟩; refine ⟨_, rfl, ?_⟩; have n0_ := Aside0.mk (below_step (by repeat (first | (with_reducible first | exact HB.out | apply below_alloc | apply pw_below_drewN | apply below_drew1) | exact HB.out)) hb); clear HB; have HB := n0_; clear n0_; (try clear hb); (try clear hb2); (try clear hk); (try clear hi)) | ((with_reducible refine gate_callee (f := 23) rfl ?_); refine goesL_ (some 15) rfl rfl Try.func23 (by kernel_rfl) rfl #[.int .i64 (wrap64 (a0 * t166)), .int .i64 16] rfl (by (try simp only [List.map_toArray, List.map_cons, List.map_nil]); first | done | rfl | (simp only [List.length_drop, List.length_take]; rfl)) ?_; (with_reducible refine (num_Shr.calls kj2 (wrap64 (a0 * t166)) 16 t167 _ A7.out).mono ?_); rintro e w10 ⟨rfl, hb⟩; refine ⟨_, rfl, ?_⟩; have n0_ := Aside0.mk (below_step (by repeat (first | (with_reducible first | exact HB.out | apply below_alloc | apply pw_below_drewN | apply below_drew1) | exact HB.out)) hb); clear HB; have HB := n0_; clear n0_; (try clear hb); (try clear hb2); (try clear hk); (try clear hi)) | ((with_reducible refine gate_callee (f := 21) rfl ?_); refine goesL_ (some 16) rfl rfl Try.func21 (by kernel_rfl) rfl #[.int .i64 t167] rfl (by (try simp only [List.map_toArray, List.map_cons, List.map_nil]); first | done | rfl | (simp only [List.length_drop, List.length_take]; rfl)) ?_; (with_reducible refine (num_Sat.calls t167 t168 _ A8.out).mono ?_); rintro e w11 ⟨rfl, hb⟩; refine ⟨_, rfl, ?_⟩; have n0_ := Aside0.mk (below_step (by repeat (first | (with_reducible first | exact HB.out | apply below_alloc | apply pw_below_drewN | apply below_drew1) | exact HB.out)) hb); clear HB; have HB := n0_; clear n0_; (try clear hb); (try clear hb2); (try clear hk); (try clear hi)))
        go_ret
        exact ⟨by first | rfl | (simp [errW_none, errW_some] <;> rfl) | (simp [*, errW_none, errW_some] <;> rfl), by repeat (first | (with_reducible first | exact HB.out | apply below_alloc | apply pw_below_drewN | apply below_drew1) | exact HB.out)⟩

end Go.Proofs.Ytkidbmhmjoogiaa.S
