-- Written for this claim by a program of the session (myprint.py), out of the translation's own print; Lean checks it.
import Derived.Test.YthdlikiakegekaaHx0
namespace Go.Proofs.Ythdlikiakegekaa.S
open Go.RowKit Go.Proofs.YthdlikiakegekaaW.PrintWords Go.Proofs.YthdlikiakegekaaW.PrintLast Go.Proofs.YthdlikiakegekaaW.PrintMore
attribute [local go_sem] max2_int min2_int max_two min_two max_three min_three max_four min_four   -- for this text's walks alone
set_option linter.unusedVariables false
set_option linter.unusedSimpArgs false

/-! ### header_between: function 49 -/
def header_between.f (a0 : Int) (a1 : Int) (a2 : Int) : Option (Bool) := if a1 ≤ a0 then (some (decide (a0 ≤ a2))) else (some false)
set_option maxHeartbeats 8000000 in
set_option maxRecDepth 100000 in
theorem header_between.calls (a0 : Int) (a1 : Int) (a2 : Int) (r : Bool) (w : World) (h : header_between.f a0 a1 a2 = some r) :
    Calls Try.prog 49 #[.int .i64 a0, .int .i64 a1, .int .i64 a2] w fun e w' => e = .returned (.bool r) ∧ Drawn0 w w' := by
  have H : (if a1 ≤ a0 then (some (decide (a0 ≤ a2))) else (some false)) = some r := h
  clear h
  by_cases c4 : a1 ≤ a0
  · rw [if_pos c4] at H
    have c4b0 : decide (a1 ≤ a0) = true := decide_eq_true c4
    clear c4
    obtain rfl := Option.some.inj H
    go_enter Try.func49, Try.ntmps49
    go_wp2
    go_ret
    exact ⟨by first | rfl | (simp; done) | (simp [*]; done), by repeat (first | exact Drawn0.refl _ | apply Drawn0.step)⟩
  · rw [if_neg c4] at H
    have c4b0 : decide (a1 ≤ a0) = false := decide_eq_false c4
    clear c4
    obtain rfl := Option.some.inj H
    go_enter Try.func49, Try.ntmps49
    go_wp2
    go_ret
    exact ⟨by first | rfl | (simp; done) | (simp [*]; done), by repeat (first | exact Drawn0.refl _ | apply Drawn0.step)⟩

/-! ### header_Right: function 15 -/
def header_Right.f (a0_0 : Int) (a0_1 : Int) (a0_2 : Int) (a0_3 : Int) (a0_4 : Int) (a0_5 : Int) (a1 : Int) : Option (Bool) := (header_between.f a0_0 1 2).bind fun t102 => (if t102 = true then ((header_between.f a0_2 0 10).bind fun t103 => (if t103 = true then ((header_between.f a0_1 1 192000).bind fun t104 => (if t104 = true then ((header_between.f a0_3 0 128).bind fun t105 => (if t105 = true then ((header_between.f a0_4 0 128).bind fun t106 => (if t106 = true then ((header_between.f a0_5 0 131072).bind fun t107 => (if t107 = true then ((header_between.f a1 0 262144).bind fun t108 => (some t108)) else (some false))) else (some false))) else (some false))) else (some false))) else (some false))) else (some false))
set_option maxHeartbeats 8000000 in
set_option maxRecDepth 100000 in
theorem header_Right.calls (a0_0 : Int) (a0_1 : Int) (a0_2 : Int) (a0_3 : Int) (a0_4 : Int) (a0_5 : Int) (a1 : Int) (r : Bool) (w : World) (h : header_Right.f a0_0 a0_1 a0_2 a0_3 a0_4 a0_5 a1 = some r) :
    Calls Try.prog 15 #[.agg #[.int .i64 a0_0, .int .i64 a0_1, .int .i64 a0_2, .int .i64 a0_3, .int .i64 a0_4, .int .i64 a0_5], .int .i64 a1] w fun e w' => e = .returned (.bool r) ∧ Below w.heap.size w w' := by
  have hu23 := Try.underlying23
  have HB := Aside0.mk (Below.refl w.heap.size w)
  have H : ((header_between.f a0_0 1 2).bind fun t102 => (if t102 = true then ((header_between.f a0_2 0 10).bind fun t103 => (if t103 = true then ((header_between.f a0_1 1 192000).bind fun t104 => (if t104 = true then ((header_between.f a0_3 0 128).bind fun t105 => (if t105 = true then ((header_between.f a0_4 0 128).bind fun t106 => (if t106 = true then ((header_between.f a0_5 0 131072).bind fun t107 => (if t107 = true then ((header_between.f a1 0 262144).bind fun t108 => (some t108)) else (some false))) else (some false))) else (some false))) else (some false))) else (some false))) else (some false))) = some r := h
  clear h
  replace H := Option.bind_eq_some_iff.mp H
  obtain ⟨t102, A30, H⟩ := H
  replace H : (if t102 = true then ((header_between.f a0_2 0 10).bind fun t103 => (if t103 = true then ((header_between.f a0_1 1 192000).bind fun t104 => (if t104 = true then ((header_between.f a0_3 0 128).bind fun t105 => (if t105 = true then ((header_between.f a0_4 0 128).bind fun t106 => (if t106 = true then ((header_between.f a0_5 0 131072).bind fun t107 => (if t107 = true then ((header_between.f a1 0 262144).bind fun t108 => (some t108)) else (some false))) else (some false))) else (some false))) else (some false))) else (some false))) else (some false)) = some r := H
  have A3 := Aside0.mk A30
  clear A30
  by_cases c4 : t102 = true
  · subst c4
    have H1 : ((header_between.f a0_2 0 10).bind fun t103 => (if t103 = true then ((header_between.f a0_1 1 192000).bind fun t104 => (if t104 = true then ((header_between.f a0_3 0 128).bind fun t105 => (if t105 = true then ((header_between.f a0_4 0 128).bind fun t106 => (if t106 = true then ((header_between.f a0_5 0 131072).bind fun t107 => (if t107 = true then ((header_between.f a1 0 262144).bind fun t108 => (some t108)) else (some false))) else (some false))) else (some false))) else (some false))) else (some false))) = some r := by rw [if_pos rfl] at H; exact H
    clear H
    have H := H1
    clear H1
    replace H := Option.bind_eq_some_iff.mp H
    obtain ⟨t103, A50, H⟩ := H
    replace H : (if t103 = true then ((header_between.f a0_1 1 192000).bind fun t104 => (if t104 = true then ((header_between.f a0_3 0 128).bind fun t105 => (if t105 = true then ((header_between.f a0_4 0 128).bind fun t106 => (if t106 = true then ((header_between.f a0_5 0 131072).bind fun t107 => (if t107 = true then ((header_between.f a1 0 262144).bind fun t108 => (some t108)) else (some false))) else (some false))) else (some false))) else (some false))) else (some false)) = some r := H
    have A5 := Aside0.mk A50
    clear A50
    by_cases c6 : t103 = true
    · subst c6
      have H1 : ((header_between.f a0_1 1 192000).bind fun t104 => (if t104 = true then ((header_between.f a0_3 0 128).bind fun t105 => (if t105 = true then ((header_between.f a0_4 0 128).bind fun t106 => (if t106 = true then ((header_between.f a0_5 0 131072).bind fun t107 => (if t107 = true then ((header_between.f a1 0 262144).bind fun t108 => (some t108)) else (some false))) else (some false))) else (some false))) else (some false))) = some r := by rw [if_pos rfl] at H; exact H
      clear H
      have H := H1
      clear H1
      replace H := Option.bind_eq_some_iff.mp H
      obtain ⟨t104, A70, H⟩ := H
      replace H : (if t104 = true then ((header_between.f a0_3 0 128).bind fun t105 => (if t105 = true then ((header_between.f a0_4 0 128).bind fun t106 => (if t106 = true then ((header_between.f a0_5 0 131072).bind fun t107 => (if t107 = true then ((header_between.f a1 0 262144).bind fun t108 => (some t108)) else (some false))) else (some false))) else (some false))) else (some false)) = some r := H
      have A7 := Aside0.mk A70
      clear A70
      by_cases c8 : t104 = true
      · subst c8
        have H1 : ((header_between.f a0_3 0 128).bind fun t105 => (if t105 = true then ((header_between.f a0_4 0 128).bind fun t106 => (if t106 = true then ((header_between.f a0_5 0 131072).bind fun t107 => (if t107 = true then ((header_between.f a1 0 262144).bind fun t108 => (some t108)) else (some false))) else (some false))) else (some false))) = some r := by rw [if_pos rfl] at H; exact H
        clear H
        have H := H1
        clear H1
        replace H := Option.bind_eq_some_iff.mp H
        obtain ⟨t105, A90, H⟩ := H
        replace H : (if t105 = true then ((header_between.f a0_4 0 128).bind fun t106 => (if t106 = true then ((header_between.f a0_5 0 131072).bind fun t107 => (if t107 = true then ((header_between.f a1 0 262144).bind fun t108 => (some t108)) else (some false))) else (some false))) else (some false)) = some r := H
        have A9 := Aside0.mk A90
        clear A90
        by_cases c10 : t105 = true
        · subst c10
          have H1 : ((header_between.f a0_4 0 128).bind fun t106 => (if t106 = true then ((header_between.f a0_5 0 131072).bind fun t107 => (if t107 = true then ((header_between.f a1 0 262144).bind fun t108 => (some t108)) else (some false))) else (some false))) = some r := by rw [if_pos rfl] at H; exact H
          clear H
          have H := H1
          clear H1
          replace H := Option.bind_eq_some_iff.mp H
          obtain ⟨t106, A110, H⟩ := H
          replace H : (if t106 = true then ((header_between.f a0_5 0 131072).bind fun t107 => (if t107 = true then ((header_between.f a1 0 262144).bind fun t108 => (some t108)) else (some false))) else (some false)) = some r := H
          have A11 := Aside0.mk A110
          clear A110
          by_cases c12 : t106 = true
          · subst c12
            have H1 : ((header_between.f a0_5 0 131072).bind fun t107 => (if t107 = true then ((header_between.f a1 0 262144).bind fun t108 => (some t108)) else (some false))) = some r := by rw [if_pos rfl] at H; exact H
            clear H
            have H := H1
            clear H1
            replace H := Option.bind_eq_some_iff.mp H
            obtain ⟨t107, A130, H⟩ := H
            replace H : (if t107 = true then ((header_between.f a1 0 262144).bind fun t108 => (some t108)) else (some false)) = some r := H
            have A13 := Aside0.mk A130
            clear A130
            by_cases c14 : t107 = true
            · subst c14
              have H1 : ((header_between.f a1 0 262144).bind fun t108 => (some t108)) = some r := by rw [if_pos rfl] at H; exact H
              clear H
              have H := H1
              clear H1
              replace H := Option.bind_eq_some_iff.mp H
              obtain ⟨t108, A150, H⟩ := H
              replace H : (some t108) = some r := H
              have A15 := Aside0.mk A150
              clear A150
              obtain rfl := Option.some.inj H
              go_enter Try.func15, Try.ntmps15
              go_wp2_with (first | ((with_reducible refine gate_dst (N := 2) rfl ?_); refine box_event ?hg (N := 2) ?hd (cs := #[.int .i64 a0_0, .int .i64 a0_1, .int .i64 a0_2, .int .i64 a0_3, .int .i64 a0_4, .int .i64 a0_5]) (t := 23) ?hr ?_; (case hd => rfl); (case hg => rfl); (case hr => first | (go_simp; done) | (go_simp; rfl)); intro gb101 hg w16 hbox hb; have n0_ := Aside0.mk (below_step (by repeat (first | (with_reducible first | exact HB.out | apply below_alloc | apply pw_below_drewN | apply below_drew1) | exact HB.out)) hb); have n1_ := Aside0.mk (hbox); have n2_ := Aside0.mk ((by rw [hg]; exact (below_size (by repeat (first | (with_reducible first | exact HB.out | apply below_alloc | apply pw_below_drewN | apply below_drew1) | exact HB.out))) : w.heap.size ≤ gb101)); have n3_ := Aside0.mk ((by rw [hg]; exact (below_size (by repeat (first | (with_reducible first | exact HB.out | apply below_alloc | apply pw_below_drewN | apply below_drew1) | exact HB.out))) : w.heap.size ≤ gb101)); clear HB; have HB := n0_; have BK101 := n1_; have GW101 := n2_; have GE101 := n3_; clear n0_ n1_ n2_ n3_; clear hb hbox hg; have hcz17_0 : w16.cell? ⟨gb101, 0, none⟩ = some (.int .i64 a0_0) := (blk_cell BK101.out 0).trans rfl; have hcz17_1 : w16.cell? ⟨gb101, 1, none⟩ = some (.int .i64 a0_1) := (blk_cell BK101.out 1).trans rfl; have hcz17_2 : w16.cell? ⟨gb101, 2, none⟩ = some (.int .i64 a0_2) := (blk_cell BK101.out 2).trans rfl; have hcz17_3 : w16.cell? ⟨gb101, 3, none⟩ = some (.int .i64 a0_3) := (blk_cell BK101.out 3).trans rfl; have hcz17_4 : w16.cell? ⟨gb101, 4, none⟩ = some (.int .i64 a0_4) := (blk_cell BK101.out 4).trans rfl; have hcz17_5 : w16.cell? ⟨gb101, 5, none⟩ = some (.int .i64 a0_5) := (blk_cell BK101.out 5).trans rfl; have hfz17_0 := blk_frozen BK101.out 0; have hfz17_1 := blk_frozen BK101.out 1; have hfz17_2 := blk_frozen BK101.out 2; have hfz17_3 := blk_frozen BK101.out 3; have hfz17_4 := blk_frozen BK101.out 4; have hfz17_5 := blk_frozen BK101.out 5) | ((with_reducible refine gate_callee (f := 49) rfl ?_); refine goesL_ (some 7) rfl rfl Try.func49 (by kernel_rfl) rfl #[.int .i64 a0_0, .int .i64 1, .int .i64 2] rfl (by (try simp only [List.map_toArray, List.map_cons, List.map_nil]); first | done | rfl | (simp only [List.length_drop, List.length_take]; rfl)) ?_; (with_reducible refine (header_between.calls a0_0 1 2 true _ A3.out).mono ?_); rintro e w' ⟨rfl, ⟨nd, rfl⟩⟩; refine ⟨_, rfl, ?_⟩) | (go_at_call 49; (with_reducible refine (header_between.calls a0_2 0 10 true _ A5.out).mono ?_); rintro e w' ⟨rfl, ⟨nd, rfl⟩⟩) | (go_at_call 49; (with_reducible refine (header_between.calls a0_1 1 192000 true _ A7.out).mono ?_); rintro e w' ⟨rfl, ⟨nd, rfl⟩⟩) | (go_at_call 49; (with_reducible refine (header_between.calls a0_3 0 128 true _ A9.out).mono ?_); rintro e w' ⟨rfl, ⟨nd, rfl⟩⟩) | (go_at_call 49; (with_reducible refine (header_between.calls a0_4 0 128 true _ A11.out).mono ?_); rintro e w' ⟨rfl, ⟨nd, rfl⟩⟩) | (go_at_call 49; (with_reducible refine (header_between.calls a0_5 0 131072 true _ A13.out).mono ?_); rintro e w' ⟨rfl, ⟨nd, rfl⟩⟩) | (go_at_call 49; (with_reducible refine (header_between.calls a1 0 262144 t108 _ A15.out).mono ?_); rintro e w' ⟨rfl, ⟨nd, rfl⟩⟩))
              go_ret
              exact ⟨by first | rfl | (simp [errW_none, errW_some] <;> rfl) | (simp [*, errW_none, errW_some] <;> rfl), by repeat (first | (with_reducible first | exact HB.out | apply below_alloc | apply pw_below_drewN | apply below_drew1 | refine below_set ?_ GE101.out) | exact HB.out)⟩
            · replace c14 := Bool.eq_false_iff.mpr c14
              subst c14
              have H1 : (some false) = some r := by rw [if_neg (show ¬ (false = true) by decide)] at H; exact H
              clear H
              have H := H1
              clear H1
              obtain rfl := Option.some.inj H
              go_enter Try.func15, Try.ntmps15
              go_wp2_with (first | ((with_reducible refine gate_dst (N := 2) rfl ?_); refine box_event ?hg (N := 2) ?hd (cs := #[.int .i64 a0_0, .int .i64 a0_1, .int .i64 a0_2, .int .i64 a0_3, .int .i64 a0_4, .int .i64 a0_5]) (t := 23) ?hr ?_; (case hd => rfl); (case hg => rfl); (case hr => first | (go_simp; done) | (go_simp; rfl)); intro gb101 hg w18 hbox hb; have n0_ := Aside0.mk (below_step (by repeat (first | (with_reducible first | exact HB.out | apply below_alloc | apply pw_below_drewN | apply below_drew1) | exact HB.out)) hb); have n1_ := Aside0.mk (hbox); have n2_ := Aside0.mk ((by rw [hg]; exact (below_size (by repeat (first | (with_reducible first | exact HB.out | apply below_alloc | apply pw_below_drewN | apply below_drew1) | exact HB.out))) : w.heap.size ≤ gb101)); have n3_ := Aside0.mk ((by rw [hg]; exact (below_size (by repeat (first | (with_reducible first | exact HB.out | apply below_alloc | apply pw_below_drewN | apply below_drew1) | exact HB.out))) : w.heap.size ≤ gb101)); clear HB; have HB := n0_; have BK101 := n1_; have GW101 := n2_; have GE101 := n3_; clear n0_ n1_ n2_ n3_; clear hb hbox hg; have hcz19_0 : w18.cell? ⟨gb101, 0, none⟩ = some (.int .i64 a0_0) := (blk_cell BK101.out 0).trans rfl; have hcz19_1 : w18.cell? ⟨gb101, 1, none⟩ = some (.int .i64 a0_1) := (blk_cell BK101.out 1).trans rfl; have hcz19_2 : w18.cell? ⟨gb101, 2, none⟩ = some (.int .i64 a0_2) := (blk_cell BK101.out 2).trans rfl; have hcz19_3 : w18.cell? ⟨gb101, 3, none⟩ = some (.int .i64 a0_3) := (blk_cell BK101.out 3).trans rfl; have hcz19_4 : w18.cell? ⟨gb101, 4, none⟩ = some (.int .i64 a0_4) := (blk_cell BK101.out 4).trans rfl; have hcz19_5 : w18.cell? ⟨gb101, 5, none⟩ = some (.int .i64 a0_5) := (blk_cell BK101.out 5).trans rfl; have hfz19_0 := blk_frozen BK101.out 0; have hfz19_1 := blk_frozen BK101.out 1; have hfz19_2 := blk_frozen BK101.out 2; have hfz19_3 := blk_frozen BK101.out 3; have hfz19_4 := blk_frozen BK101.out 4; have hfz19_5 := blk_frozen BK101.out 5) | ((with_reducible refine gate_callee (f := 49) rfl ?_); refine goesL_ (some 7) rfl rfl Try.func49 (by kernel_rfl) rfl #[.int .i64 a0_0, .int .i64 1, .int .i64 2] rfl (by (try simp only [List.map_toArray, List.map_cons, List.map_nil]); first | done | rfl | (simp only [List.length_drop, List.length_take]; rfl)) ?_; (with_reducible refine (header_between.calls a0_0 1 2 true _ A3.out).mono ?_); rintro e w' ⟨rfl, ⟨nd, rfl⟩⟩; refine ⟨_, rfl, ?_⟩) | (go_at_call 49; (with_reducible refine (header_between.calls a0_2 0 10 true _ A5.out).mono ?_); rintro e w' ⟨rfl, ⟨nd, rfl⟩⟩) | (go_at_call 49; (with_reducible refine (header_between.calls a0_1 1 192000 true _ A7.out).mono ?_); rintro e w' ⟨rfl, ⟨nd, rfl⟩⟩) | (go_at_call 49; (with_reducible refine (header_between.calls a0_3 0 128 true _ A9.out).mono ?_); rintro e w' ⟨rfl, ⟨nd, rfl⟩⟩) | (go_at_call 49; (with_reducible refine (header_between.calls a0_4 0 128 true _ A11.out).mono ?_); rintro e w' ⟨rfl, ⟨nd, rfl⟩⟩) | (go_at_call 49; (with_reducible refine (header_between.calls a0_5 0 131072 false _ A13.out).mono ?_); rintro e w' ⟨rfl, ⟨nd, rfl⟩⟩))
              go_ret
              exact ⟨by first | rfl | (simp [errW_none, errW_some] <;> rfl) | (simp [*, errW_none, errW_some] <;> rfl), by repeat (first | (with_reducible first | exact HB.out | apply below_alloc | apply pw_below_drewN | apply below_drew1 | refine below_set ?_ GE101.out) | exact HB.out)⟩
          · replace c12 := Bool.eq_false_iff.mpr c12
            subst c12
            have H1 : (some false) = some r := by rw [if_neg (show ¬ (false = true) by decide)] at H; exact H
            clear H
            have H := H1
            clear H1
            obtain rfl := Option.some.inj H
            go_enter Try.func15, Try.ntmps15
            go_wp2_with (first | ((with_reducible refine gate_dst (N := 2) rfl ?_); refine box_event ?hg (N := 2) ?hd (cs := #[.int .i64 a0_0, .int .i64 a0_1, .int .i64 a0_2, .int .i64 a0_3, .int .i64 a0_4, .int .i64 a0_5]) (t := 23) ?hr ?_; (case hd => rfl); (case hg => rfl); (case hr => first | (go_simp; done) | (go_simp; rfl)); intro gb101 hg w20 hbox hb; have n0_ := Aside0.mk (below_step (by repeat (first | (with_reducible first | exact HB.out | apply below_alloc | apply pw_below_drewN | apply below_drew1) | exact HB.out)) hb); have n1_ := Aside0.mk (hbox); have n2_ := Aside0.mk ((by rw [hg]; exact (below_size (by repeat (first | (with_reducible first | exact HB.out | apply below_alloc | apply pw_below_drewN | apply below_drew1) | exact HB.out))) : w.heap.size ≤ gb101)); have n3_ := Aside0.mk ((by rw [hg]; exact (below_size (by repeat (first | (with_reducible first | exact HB.out | apply below_alloc | apply pw_below_drewN | apply below_drew1) | exact HB.out))) : w.heap.size ≤ gb101)); clear HB; have HB := n0_; have BK101 := n1_; have GW101 := n2_; have GE101 := n3_; clear n0_ n1_ n2_ n3_; clear hb hbox hg; have hcz21_0 : w20.cell? ⟨gb101, 0, none⟩ = some (.int .i64 a0_0) := (blk_cell BK101.out 0).trans rfl; have hcz21_1 : w20.cell? ⟨gb101, 1, none⟩ = some (.int .i64 a0_1) := (blk_cell BK101.out 1).trans rfl; have hcz21_2 : w20.cell? ⟨gb101, 2, none⟩ = some (.int .i64 a0_2) := (blk_cell BK101.out 2).trans rfl; have hcz21_3 : w20.cell? ⟨gb101, 3, none⟩ = some (.int .i64 a0_3) := (blk_cell BK101.out 3).trans rfl; have hcz21_4 : w20.cell? ⟨gb101, 4, none⟩ = some (.int .i64 a0_4) := (blk_cell BK101.out 4).trans rfl; have hcz21_5 : w20.cell? ⟨gb101, 5, none⟩ = some (.int .i64 a0_5) := (blk_cell BK101.out 5).trans rfl; have hfz21_0 := blk_frozen BK101.out 0; have hfz21_1 := blk_frozen BK101.out 1; have hfz21_2 := blk_frozen BK101.out 2; have hfz21_3 := blk_frozen BK101.out 3; have hfz21_4 := blk_frozen BK101.out 4; have hfz21_5 := blk_frozen BK101.out 5) | ((with_reducible refine gate_callee (f := 49) rfl ?_); refine goesL_ (some 7) rfl rfl Try.func49 (by kernel_rfl) rfl #[.int .i64 a0_0, .int .i64 1, .int .i64 2] rfl (by (try simp only [List.map_toArray, List.map_cons, List.map_nil]); first | done | rfl | (simp only [List.length_drop, List.length_take]; rfl)) ?_; (with_reducible refine (header_between.calls a0_0 1 2 true _ A3.out).mono ?_); rintro e w' ⟨rfl, ⟨nd, rfl⟩⟩; refine ⟨_, rfl, ?_⟩) | (go_at_call 49; (with_reducible refine (header_between.calls a0_2 0 10 true _ A5.out).mono ?_); rintro e w' ⟨rfl, ⟨nd, rfl⟩⟩) | (go_at_call 49; (with_reducible refine (header_between.calls a0_1 1 192000 true _ A7.out).mono ?_); rintro e w' ⟨rfl, ⟨nd, rfl⟩⟩) | (go_at_call 49; (with_reducible refine (header_between.calls a0_3 0 128 true _ A9.out).mono ?_); rintro e w' ⟨rfl, ⟨nd, rfl⟩⟩) | (go_at_call 49; (with_reducible refine (header_between.calls a0_4 0 128 false _ A11.out).mono ?_); rintro e w' ⟨rfl, ⟨nd, rfl⟩⟩))
            go_ret
            exact ⟨by first | rfl | (simp [errW_none, errW_some] <;> rfl) | (simp [*, errW_none, errW_some] <;> rfl), by repeat (first | (with_reducible first | exact HB.out | apply below_alloc | apply pw_below_drewN | apply below_drew1 | refine below_set ?_ GE101.out) | exact HB.out)⟩
        · replace c10 := Bool.eq_false_iff.mpr c10
          subst c10
          have H1 : (some false) = some r := by rw [if_neg (show ¬ (false = true) by decide)] at H; exact H
          clear H
          have H := H1
          clear H1
          obtain rfl := Option.some.inj H
          go_enter Try.func15, Try.ntmps15
          go_wp2_with (first | ((with_reducible refine gate_dst (N := 2) rfl ?_); refine box_event ?hg (N := 2) ?hd (cs := #[.int .i64 a0_0, .int .i64 a0_1, .int .i64 a0_2, .int .i64 a0_3, .int .i64 a0_4, .int .i64 a0_5]) (t := 23) ?hr ?_; (case hd => rfl); (case hg => rfl); (case hr => first | (go_simp; done) | (go_simp; rfl)); intro gb101 hg w22 hbox hb; have n0_ := Aside0.mk (below_step (by repeat (first | (with_reducible first | exact HB.out | apply below_alloc | apply pw_below_drewN | apply below_drew1) | exact HB.out)) hb); have n1_ := Aside0.mk (hbox); have n2_ := Aside0.mk ((by rw [hg]; exact (below_size (by repeat (first | (with_reducible first | exact HB.out | apply below_alloc | apply pw_below_drewN | apply below_drew1) | exact HB.out))) : w.heap.size ≤ gb101)); have n3_ := Aside0.mk ((by rw [hg]; exact (below_size (by repeat (first | (with_reducible first | exact HB.out | apply below_alloc | apply pw_below_drewN | apply below_drew1) | exact HB.out))) : w.heap.size ≤ gb101)); clear HB; have HB := n0_; have BK101 := n1_; have GW101 := n2_; have GE101 := n3_; clear n0_ n1_ n2_ n3_; clear hb hbox hg; have hcz23_0 : w22.cell? ⟨gb101, 0, none⟩ = some (.int .i64 a0_0) := (blk_cell BK101.out 0).trans rfl; have hcz23_1 : w22.cell? ⟨gb101, 1, none⟩ = some (.int .i64 a0_1) := (blk_cell BK101.out 1).trans rfl; have hcz23_2 : w22.cell? ⟨gb101, 2, none⟩ = some (.int .i64 a0_2) := (blk_cell BK101.out 2).trans rfl; have hcz23_3 : w22.cell? ⟨gb101, 3, none⟩ = some (.int .i64 a0_3) := (blk_cell BK101.out 3).trans rfl; have hcz23_4 : w22.cell? ⟨gb101, 4, none⟩ = some (.int .i64 a0_4) := (blk_cell BK101.out 4).trans rfl; have hcz23_5 : w22.cell? ⟨gb101, 5, none⟩ = some (.int .i64 a0_5) := (blk_cell BK101.out 5).trans rfl; have hfz23_0 := blk_frozen BK101.out 0; have hfz23_1 := blk_frozen BK101.out 1; have hfz23_2 := blk_frozen BK101.out 2; have hfz23_3 := blk_frozen BK101.out 3; have hfz23_4 := blk_frozen BK101.out 4; have hfz23_5 := blk_frozen BK101.out 5) | ((with_reducible refine gate_callee (f := 49) rfl ?_); refine goesL_ (some 7) rfl rfl Try.func49 (by kernel_rfl) rfl #[.int .i64 a0_0, .int .i64 1, .int .i64 2] rfl (by (try simp only [List.map_toArray, List.map_cons, List.map_nil]); first | done | rfl | (simp only [List.length_drop, List.length_take]; rfl)) ?_; (with_reducible refine (header_between.calls a0_0 1 2 true _ A3.out).mono ?_); rintro e w' ⟨rfl, ⟨nd, rfl⟩⟩; refine ⟨_, rfl, ?_⟩) | (go_at_call 49; (with_reducible refine (header_between.calls a0_2 0 10 true _ A5.out).mono ?_); rintro e w' ⟨rfl, ⟨nd, rfl⟩⟩) | (go_at_call 49; (with_reducible refine (header_between.calls a0_1 1 192000 true _ A7.out).mono ?_); rintro e w' ⟨rfl, ⟨nd, rfl⟩⟩) | (go_at_call 49; (with_reducible refine (header_between.calls a0_3 0 128 false _ A9.out).mono ?_); rintro e w' ⟨rfl, ⟨nd, rfl⟩⟩))
          go_ret
          exact ⟨by first | rfl | (simp [errW_none, errW_some] <;> rfl) | (simp [*, errW_none, errW_some] <;> rfl), by repeat (first | (with_reducible first | exact HB.out | apply below_alloc | apply pw_below_drewN | apply below_drew1 | refine below_set ?_ GE101.out) | exact HB.out)⟩
      · replace c8 := Bool.eq_false_iff.mpr c8
        subst c8
        have H1 : (some false) = some r := by rw [if_neg (show ¬ (false = true) by decide)] at H; exact H
        clear H
        have H := H1
        clear H1
        obtain rfl := Option.some.inj H
        go_enter Try.func15, Try.ntmps15
        go_wp2_with (first | ((with_reducible refine gate_dst (N := 2) rfl ?_); refine box_event ?hg (N := 2) ?hd (cs := #[.int .i64 a0_0, .int .i64 a0_1, .int .i64 a0_2, .int .i64 a0_3, .int .i64 a0_4, .int .i64 a0_5]) (t := 23) ?hr ?_; (case hd => rfl); (case hg => rfl); (case hr => first | (go_simp; done) | (go_simp; rfl)); intro gb101 hg w24 hbox hb; have n0_ := Aside0.mk (below_step (by repeat (first | (with_reducible first | exact HB.out | apply below_alloc | apply pw_below_drewN | apply below_drew1) | exact HB.out)) hb); have n1_ := Aside0.mk (hbox); have n2_ := Aside0.mk ((by rw [hg]; exact (below_size (by repeat (first | (with_reducible first | exact HB.out | apply below_alloc | apply pw_below_drewN | apply below_drew1) | exact HB.out))) : w.heap.size ≤ gb101)); have n3_ := Aside0.mk ((by rw [hg]; exact (below_size (by repeat (first | (with_reducible first | exact HB.out | apply below_alloc | apply pw_below_drewN | apply below_drew1) | exact HB.out))) : w.heap.size ≤ gb101)); clear HB; have HB := n0_; have BK101 := n1_; have GW101 := n2_; have GE101 := n3_; clear n0_ n1_ n2_ n3_; clear hb hbox hg; have hcz25_0 : w24.cell? ⟨gb101, 0, none⟩ = some (.int .i64 a0_0) := (blk_cell BK101.out 0).trans rfl; have hcz25_1 : w24.cell? ⟨gb101, 1, none⟩ = some (.int .i64 a0_1) := (blk_cell BK101.out 1).trans rfl; have hcz25_2 : w24.cell? ⟨gb101, 2, none⟩ = some (.int .i64 a0_2) := (blk_cell BK101.out 2).trans rfl; have hcz25_3 : w24.cell? ⟨gb101, 3, none⟩ = some (.int .i64 a0_3) := (blk_cell BK101.out 3).trans rfl; have hcz25_4 : w24.cell? ⟨gb101, 4, none⟩ = some (.int .i64 a0_4) := (blk_cell BK101.out 4).trans rfl; have hcz25_5 : w24.cell? ⟨gb101, 5, none⟩ = some (.int .i64 a0_5) := (blk_cell BK101.out 5).trans rfl; have hfz25_0 := blk_frozen BK101.out 0; have hfz25_1 := blk_frozen BK101.out 1; have hfz25_2 := blk_frozen BK101.out 2; have hfz25_3 := blk_frozen BK101.out 3; have hfz25_4 := blk_frozen BK101.out 4; have hfz25_5 := blk_frozen BK101.out 5) | ((with_reducible refine gate_callee (f := 49) rfl ?_); refine goesL_ (some 7) rfl rfl Try.func49 (by kernel_rfl) rfl #[.int .i64 a0_0, .int .i64 1, .int .i64 2] rfl (by (try simp only [List.map_toArray, List.map_cons, List.map_nil]); first | done | rfl | (simp only [List.length_drop, List.length_take]; rfl)) ?_; (with_reducible refine (header_between.calls a0_0 1 2 true _ A3.out).mono ?_); rintro e w' ⟨rfl, ⟨nd, rfl⟩⟩; refine ⟨_, rfl, ?_⟩) | (go_at_call 49; (with_reducible refine (header_between.calls a0_2 0 10 true _ A5.out).mono ?_); rintro e w' ⟨rfl, ⟨nd, rfl⟩⟩) | (go_at_call 49; (with_reducible refine (header_between.calls a0_1 1 192000 false _ A7.out).mono ?_); rintro e w' ⟨rfl, ⟨nd, rfl⟩⟩))
        go_ret
        exact ⟨by first | rfl | (simp [errW_none, errW_some] <;> rfl) | (simp [*, errW_none, errW_some] <;> rfl), by repeat (first | (with_reducible first | exact HB.out | apply below_alloc | apply pw_below_drewN | apply below_drew1 | refine below_set ?_ GE101.out) | exact HB.out)⟩
    · replace c6 := Bool.eq_false_iff.mpr c6
      subst c6
      have H1 : (some false) = some r := by rw [if_neg (show ¬ (false = true) by decide)] at H; exact H
      clear H
      have H := H1
      clear H1
      obtain rfl := Option.some.inj H
      go_enter Try.func15, Try.ntmps15
      go_wp2_with (first | ((with_reducible refine gate_dst (N := 2) rfl ?_); refine box_event ?hg (N := 2) ?hd (cs := #[.int .i64 a0_0, .int .i64 a0_1, .int .i64 a0_2, .int .i64 a0_3, .int .i64 a0_4, .int .i64 a0_5]) (t := 23) ?hr ?_; (case hd => rfl); (case hg => rfl); (case hr => first | (go_simp; done) | (go_simp; rfl)); intro gb101 hg w26 hbox hb; have n0_ := Aside0.mk (below_step (by repeat (first | (with_reducible first | exact HB.out | apply below_alloc | apply pw_below_drewN | apply below_drew1) | exact HB.out)) hb); have n1_ := Aside0.mk (hbox); have n2_ := Aside0.mk ((by rw [hg]; exact (below_size (by repeat (first | (with_reducible first | exact HB.out | apply below_alloc | apply pw_below_drewN | apply below_drew1) | exact HB.out))) : w.heap.size ≤ gb101)); have n3_ := Aside0.mk ((by rw [hg]; exact (below_size (by repeat (first | (with_reducible first | exact HB.out | apply below_alloc | apply pw_below_drewN | apply below_drew1) | exact HB.out))) : w.heap.size ≤ gb101)); clear HB; have HB := n0_; have BK101 := n1_; have GW101 := n2_; have GE101 := n3_; clear n0_ n1_ n2_ n3_; clear hb hbox hg; have hcz27_0 : w26.cell? ⟨gb101, 0, none⟩ = some (.int .i64 a0_0) := (blk_cell BK101.out 0).trans rfl; have hcz27_1 : w26.cell? ⟨gb101, 1, none⟩ = some (.int .i64 a0_1) := (blk_cell BK101.out 1).trans rfl; have hcz27_2 : w26.cell? ⟨gb101, 2, none⟩ = some (.int .i64 a0_2) := (blk_cell BK101.out 2).trans rfl; have hcz27_3 : w26.cell? ⟨gb101, 3, none⟩ = some (.int .i64 a0_3) := (blk_cell BK101.out 3).trans rfl; have hcz27_4 : w26.cell? ⟨gb101, 4, none⟩ = some (.int .i64 a0_4) := (blk_cell BK101.out 4).trans rfl; have hcz27_5 : w26.cell? ⟨gb101, 5, none⟩ = some (.int .i64 a0_5) := (blk_cell BK101.out 5).trans rfl; have hfz27_0 := blk_frozen BK101.out 0; have hfz27_1 := blk_frozen BK101.out 1; have hfz27_2 := blk_frozen BK101.out 2; have hfz27_3 := blk_frozen BK101.out 3; have hfz27_4 := blk_frozen BK101.out 4; have hfz27_5 := blk_frozen BK101.out 5) | ((with_reducible refine gate_callee (f := 49) rfl ?_); refine goesL_ (some 7) rfl rfl Try.func49 (by kernel_rfl) rfl #[.int .i64 a0_0, .int .i64 1, .int .i64 2] rfl (by (try simp only [List.map_toArray, List.map_cons, List.map_nil]); first | done | rfl | (simp only [List.length_drop, List.length_take]; rfl)) ?_; (with_reducible refine (header_between.calls a0_0 1 2 true _ A3.out).mono ?_); rintro e w' ⟨rfl, ⟨nd, rfl⟩⟩; refine ⟨_, rfl, ?_⟩) | (go_at_call 49; (with_reducible refine (header_between.calls a0_2 0 10 false _ A5.out).mono ?_); rintro e w' ⟨rfl, ⟨nd, rfl⟩⟩))
      go_ret
      exact ⟨by first | rfl | (simp [errW_none, errW_some] <;> rfl) | (simp [*, errW_none, errW_some] <;> rfl), by repeat (first | (with_reducible first | exact HB.out | apply below_alloc | apply pw_below_drewN | apply below_drew1 | refine below_set ?_ GE101.out) | exact HB.out)⟩
  · replace c4 := Bool.eq_false_iff.mpr c4
    subst c4
    have H1 : (some false) = some r := by rw [if_neg (show ¬ (false = true) by decide)] at H; exact H
    clear H
    have H := H1
    clear H1
    obtain rfl := Option.some.inj H
    go_enter Try.func15, Try.ntmps15
    go_wp2_with (first | ((with_reducible refine gate_dst (N := 2) rfl ?_); refine box_event ?hg (N := 2) ?hd (cs := #[.int .i64 a0_0, .int .i64 a0_1, .int .i64 a0_2, .int .i64 a0_3, .int .i64 a0_4, .int .i64 a0_5]) (t := 23) ?hr ?_; (case hd => rfl); (case hg => rfl); (case hr => first | (go_simp; done) | (go_simp; rfl)); intro gb101 hg w28 hbox hb; have n0_ := Aside0.mk (below_step (by repeat (first | (with_reducible first | exact HB.out | apply below_alloc | apply pw_below_drewN | apply below_drew1) | exact HB.out)) hb); have n1_ := Aside0.mk (hbox); have n2_ := Aside0.mk ((by rw [hg]; exact (below_size (by repeat (first | (with_reducible first | exact HB.out | apply below_alloc | apply pw_below_drewN | apply below_drew1) | exact HB.out))) : w.heap.size ≤ gb101)); have n3_ := Aside0.mk ((by rw [hg]; exact (below_size (by repeat (first | (with_reducible first | exact HB.out | apply below_alloc | apply pw_below_drewN | apply below_drew1) | exact HB.out))) : w.heap.size ≤ gb101)); clear HB; have HB := n0_; have BK101 := n1_; have GW101 := n2_; have GE101 := n3_; clear n0_ n1_ n2_ n3_; clear hb hbox hg; have hcz29_0 : w28.cell? ⟨gb101, 0, none⟩ = some (.int .i64 a0_0) := (blk_cell BK101.out 0).trans rfl; have hcz29_1 : w28.cell? ⟨gb101, 1, none⟩ = some (.int .i64 a0_1) := (blk_cell BK101.out 1).trans rfl; have hcz29_2 : w28.cell? ⟨gb101, 2, none⟩ = some (.int .i64 a0_2) := (blk_cell BK101.out 2).trans rfl; have hcz29_3 : w28.cell? ⟨gb101, 3, none⟩ = some (.int .i64 a0_3) := (blk_cell BK101.out 3).trans rfl; have hcz29_4 : w28.cell? ⟨gb101, 4, none⟩ = some (.int .i64 a0_4) := (blk_cell BK101.out 4).trans rfl; have hcz29_5 : w28.cell? ⟨gb101, 5, none⟩ = some (.int .i64 a0_5) := (blk_cell BK101.out 5).trans rfl; have hfz29_0 := blk_frozen BK101.out 0; have hfz29_1 := blk_frozen BK101.out 1; have hfz29_2 := blk_frozen BK101.out 2; have hfz29_3 := blk_frozen BK101.out 3; have hfz29_4 := blk_frozen BK101.out 4; have hfz29_5 := blk_frozen BK101.out 5) | ((with_reducible refine gate_callee (f := 49) rfl ?_); refine goesL_ (some 7) rfl rfl Try.func49 (by kernel_rfl) rfl #[.int .i64 a0_0, .int .i64 1, .int .i64 2] rfl (by (try simp only [List.map_toArray, List.map_cons, List.map_nil]); first | done | rfl | (simp only [List.length_drop, List.length_take]; rfl)) ?_; (with_reducible refine (header_between.calls a0_0 1 2 false _ A3.out).mono ?_); rintro e w' ⟨rfl, ⟨nd, rfl⟩⟩; refine ⟨_, rfl, ?_⟩))
    go_ret
    exact ⟨by first | rfl | (simp [errW_none, errW_some] <;> rfl) | (simp [*, errW_none, errW_some] <;> rfl), by repeat (first | (with_reducible first | exact HB.out | apply below_alloc | apply pw_below_drewN | apply below_drew1 | refine below_set ?_ GE101.out) | exact HB.out)⟩

-- NOT PRINTED: function 42 (octet_Writer_Text)

-- NOT PRINTED: function 43 (header_fields)

-- NOT PRINTED: function 44 (octet_Writer_Num)

/-! ### crc_Table_More: function 60 -/
def crc_Table_More.f (l0 : List Int) (a1 : Int) (a2 : ByteArray) : Option Int :=
  if l0 = CrcX.crcTab then (if 0 ≤ a1 ∧ a1 < 4294967296 ∧ a2.size ≤ 140737488351232 then some ((CrcLem.sumN a1.toNat a2.data.toList : Nat) : Int) else none) else none
theorem crc_Table_More.calls (A0 : Option Addr) (c0 : Nat) (l0 : List Int) (a1 : Int) (a2 : ByteArray) (r : Int) (w : World) (hr0 : Kd.C (Kd.int .u32) w A0 l0.length l0) (hc0 : l0.length ≤ c0) (h : crc_Table_More.f l0 a1 a2 = some r) :
    Calls Try.prog 60 #[.pointer A0, .int .u32 a1, .string a2] w fun e w' => e = .returned (.int .u32 r) ∧ Drawn0 w w' := by
  unfold crc_Table_More.f at h
  split at h
  · rename_i e
    subst e
    split at h
    · rename_i hb
      obtain rfl := Option.some.inj h
      obtain ⟨a, rfl, hT⟩ := CrcX.tab_at hr0
      obtain ⟨n, rfl⟩ := Int.eq_ofNat_of_zero_le hb.1
      exact (CrcW.more_at a n a2 w (by omega) hb.2.2 hT).mono fun _ _ h => ⟨h.1, ⟨h.2⟩⟩
    · cases h
  · cases h
def crc_Table_More_nil.f (_ : Unit) (a1 : Int) (a2 : ByteArray) : Option Int := some 0
theorem crc_Table_More_nil.calls (a0 : Unit) (a1 : Int) (a2 : ByteArray) (r : Int) (w : World) (h : crc_Table_More_nil.f a0 a1 a2 = some r) :
    Calls Try.prog 60 #[.pointer none, .int .u32 a1, .string a2] w fun e w' => e = .returned (.int .u32 r) ∧ Drawn0 w w' := by
  obtain rfl := Option.some.inj h
  exact (CrcW.more_nil a1 a2 w).mono fun _ _ h => ⟨h.1, by rw [← h.2]; exact Drawn0.refl w⟩

/-! ### crc_Table_Sum: function 45 -/
def crc_Table_Sum.f (l0 : List Int) (a1 : ByteArray) : Option Int :=
  if l0 = CrcX.crcTab then (if a1.size ≤ 140737488351232 then some ((CrcLem.sumN 0 a1.data.toList : Nat) : Int) else none) else none
theorem crc_Table_Sum.calls (A0 : Option Addr) (c0 : Nat) (l0 : List Int) (a1 : ByteArray) (r : Int) (w : World) (hr0 : Kd.C (Kd.int .u32) w A0 l0.length l0) (hc0 : l0.length ≤ c0) (h : crc_Table_Sum.f l0 a1 = some r) :
    Calls Try.prog 45 #[.pointer A0, .string a1] w fun e w' => e = .returned (.int .u32 r) ∧ Drawn0 w w' := by
  unfold crc_Table_Sum.f at h
  split at h
  · rename_i e
    subst e
    split at h
    · rename_i hb
      obtain rfl := Option.some.inj h
      obtain ⟨a, rfl, hT⟩ := CrcX.tab_at hr0
      exact (CrcW.sum_at a a1 w hb hT).mono fun _ _ h => ⟨h.1, ⟨h.2⟩⟩
    · cases h
  · cases h
def crc_Table_Sum_nil.f (_ : Unit) (a1 : ByteArray) : Option Int := some 0
theorem crc_Table_Sum_nil.calls (a0 : Unit) (a1 : ByteArray) (r : Int) (w : World) (h : crc_Table_Sum_nil.f a0 a1 = some r) :
    Calls Try.prog 45 #[.pointer none, .string a1] w fun e w' => e = .returned (.int .u32 r) ∧ Drawn0 w w' := by
  obtain rfl := Option.some.inj h
  exact (CrcW.sum_nil a1 w).mono fun _ _ h => ⟨h.1, by rw [← h.2]; exact Drawn0.refl w⟩

-- NOT PRINTED: function 56 (strings_Builder_String)

-- NOT PRINTED: function 46 (octet_Writer_String)

/-! ### header_Put: function 12 -/
section
open OctW RoundW HdrW
attribute [local go_sem] Oper.semAt_some wide_fn wide_depth
def magicL : List UInt8 := [83, 80, 76, 49]
def fval (a0 a1 a2 a3 a4 a5 p : Int) (i : Fin 7) : Int := [a0, a2, a1, a3, a4, a5, p][i]
def headW (v : Fin 7 → Int) (l : List (Fin 7)) : List UInt8 := magicL ++ l.flatMap fun i => numL (v i) (fsz i)
def headP (v : Fin 7 → Int) : List UInt8 := headW v (List.finRange 7) ++ numL ((CrcLem.sumN 0 (headW v (List.finRange 7)) : Nat) : Int) 4
def header_Put.f (l0 : List Int) (a0 a1 a2 a3 a4 a5 p : Int) : Option (ByteArray × Int) :=
  if l0 = CrcX.crcTab then (header_Right.f a0 a1 a2 a3 a4 a5 p).bind fun t => (if t = true then
    (if (0 ≤ a0 ∧ a0 < 1000000 ∧ 0 ≤ a1 ∧ a1 < 1000000 ∧ 0 ≤ a2 ∧ a2 < 1000000 ∧ 0 ≤ a3 ∧ a3 < 1000000) ∧ (0 ≤ a4 ∧ a4 < 1000000 ∧ 0 ≤ a5 ∧ a5 < 1000000 ∧ 0 ≤ p ∧ p < 1000000) then some (⟨(headP (fval a0 a1 a2 a3 a4 a5 p)).toArray⟩, 0) else none)
    else some (⟨#[]⟩, 1)) else none
theorem numL_len (n k : Int) : (numL n k).length ≤ k.toNat := by
  unfold numL; split
  · rw [beN_length]; exact Nat.le_refl _
  · exact Nat.zero_le _
theorem headW_len (v : Fin 7 → Int) (l : List (Fin 7)) : (headW v l).length ≤ 4 + 4 * l.length := by
  unfold headW
  rw [List.length_append]
  have : (l.flatMap fun i => numL (v i) (fsz i)).length ≤ 4 * l.length := by
    induction l with
    | nil => exact Nat.zero_le _
    | cons x l ih =>
      rw [List.flatMap_cons, List.length_append, List.length_cons]
      have h1 := numL_len (v x) (fsz x)
      have h2 := fsz_le x
      rw [Int.toNat_natCast] at h1
      omega
  show 4 + _ ≤ _
  omega
theorem headW_snoc (v : Fin 7 → Int) (l : List (Fin 7)) (x : Fin 7) : headW v (l ++ [x]) = headW v l ++ numL (v x) (fsz x) := by
  unfold headW; rw [List.flatMap_append, ← List.append_assoc]; simp
theorem enc_at (a0 a1 a2 a3 a4 a5 p : Int) (gh gp : Nat) : ∀ x : Fin 7, ∃ q o : Nat, (ptrA gh gp)[x]'(x.isLt) = .pointer (some ⟨q, o, none⟩) ∧ (sizA)[x]'(x.isLt) = .int .i64 (fsz x) ∧
    ∀ W : World, W.heap[gh]? = some (.cells #[.int .i64 a0, .int .i64 a1, .int .i64 a2, .int .i64 a3, .int .i64 a4, .int .i64 a5] 23 (0, 0)) → W.heap[gp]? = some (.cells #[.int .i64 p] 3 (0, 0)) → W.cell? ⟨q, o, none⟩ = some (.int .i64 (fval a0 a1 a2 a3 a4 a5 p x)) := by
  rintro ⟨i, hi⟩
  match i, hi with
  | 0, _ => exact ⟨gh, 0, rfl, rfl, fun W h1 h2 => (blk_cell h1 0).trans rfl⟩
  | 1, _ => exact ⟨gh, 2, rfl, rfl, fun W h1 h2 => (blk_cell h1 2).trans rfl⟩
  | 2, _ => exact ⟨gh, 1, rfl, rfl, fun W h1 h2 => (blk_cell h1 1).trans rfl⟩
  | 3, _ => exact ⟨gh, 3, rfl, rfl, fun W h1 h2 => (blk_cell h1 3).trans rfl⟩
  | 4, _ => exact ⟨gh, 4, rfl, rfl, fun W h1 h2 => (blk_cell h1 4).trans rfl⟩
  | 5, _ => exact ⟨gh, 5, rfl, rfl, fun W h1 h2 => (blk_cell h1 5).trans rfl⟩
  | 6, _ => exact ⟨gp, 0, rfl, rfl, fun W h1 h2 => (blk_cell h2 0).trans rfl⟩
theorem wr_cells {B b : Nat} {l : List UInt8} {X Y : World} (h : Wr B b l X) (hk : ∀ (k : Nat) (o : Obj), X.heap[k]? = some o → o.isCells = true → Y.heap[k]? = some o) : Wr B b l Y :=
  h.step fun k o ho hor => by
    refine hk k o ho ?_
    rcases hor with rfl | ⟨cur, fz, rfl⟩
    · rcases h with ⟨_, v, hb, _⟩ | ⟨_, v, hb, _⟩ <;> (rw [hb] at ho; obtain rfl := Option.some.inj ho; rfl)
    · rfl
theorem keepsFrom_wr {B b B' : Nat} {l : List UInt8} {X Y : World} (h : Wr B b l X) (hs : X.heap.size ≤ Y.heap.size) (hk : Kp b X Y) : KeepsFrom B' X Y :=
  ⟨hs, fun k o _ ho hc => hk k o ho (fun e => by
    cases e
    rcases h with ⟨_, v, hb, _⟩ | ⟨_, v, hb, _⟩ <;> (rw [hb] at ho; obtain rfl := Option.some.inj ho; cases hc)) (fun c fz e => by rw [e] at hc; cases hc)⟩
theorem tk_wr {b : Nat} {X Y : World} (hs : X.heap.size ≤ Y.heap.size) (hk : Kp b X Y) : TK (fun k => k = b) (fun t => t = 5) X Y :=
  ⟨hs, fun k cs t fr ho h1 h2 => hk k _ ho (fun e => h1 (Option.some.inj e)) (fun c fz e => h2 (by injection e))⟩
def HPut.T8 : Bool × List (List Nat × List Nat) := (true, [([], []), ([], []), ([1], [1]), ([2], [2]), ([], []), ([0, 3, 4], [0, 3, 4])])
def HPut.B8 : List Nat := [0, 0, 2, 6, 0, 31]
theorem HPut.tab8 : rtab .any (opsOf Try.f12 8) = HPut.T8 := by kernel_rfl
theorem HPut.bits8 : waitsOk HPut.T8.2 HPut.B8 = true := by kernel_rfl
/- 0:load>26; 1:move>27; 2:nilCheck>28; 3:load>29; 4:move>30; 5:call>31 -/
def HPut9.T9 : Bool × List (List Nat × List Nat) := (true, [([], []), ([], []), ([], []), ([2], [2]), ([1, 3, 3], [1, 3]), ([4], [4]), ([0, 5, 4], [0, 5])])
def HPut9.B9 : List Nat := [0, 0, 0, 4, 14, 30, 63]
theorem HPut9.tab9 : rtab .any (opsOf Try.f12 9) = HPut9.T9 := by kernel_rfl
theorem HPut9.bits9 : waitsOk HPut9.T9.2 HPut9.B9 = true := by kernel_rfl
/- 0:load>32; 1:move>33; 2:load>34; 3:call>35; 4:call>36; 5:convert>37; 6:call>38 -/
set_option maxHeartbeats 4000000 in
set_option maxRecDepth 100000 in
theorem hp_run (a : Addr) (a0 a1 a2 a3 a4 a5 p : Int) (w : World) (hTab : ∀ i : Nat, i < 256 → w.cell? (a.add i) = some (.int .u32 (CrcLem.entryN i : Int)))
    (hR : header_Right.f a0 a1 a2 a3 a4 a5 p = some true)
    (hv : ∀ i, ∃ n : Nat, fval a0 a1 a2 a3 a4 a5 p i = n ∧ n < 1000000) :
    Calls Try.prog 12 #[.pointer (some a), .agg #[.int .i64 a0, .int .i64 a1, .int .i64 a2, .int .i64 a3, .int .i64 a4, .int .i64 a5], .int .i64 p] w fun e w' => e = .returned (.tuple #[.string ⟨(headP (fval a0 a1 a2 a3 a4 a5 p)).toArray⟩, .int .i64 0]) ∧ Below w.heap.size w w' := by
  have hu := Try.underlying23
  have HTab := Aside0.mk hTab
  have HV := Aside0.mk hv
  clear hTab hv
  obtain ⟨R, hRR⟩ : ∃ R, R = headP (fval a0 a1 a2 a3 a4 a5 p) := ⟨_, rfl⟩
  rw [← hRR]
  have HR := Lib.hid hRR
  clear hRR
  refine calls_marks Try.func12 rfl ?_
  simp only [Try.ntmps12, List.size_toArray, List.length_cons, List.length_nil, Nat.reduceAdd, Nat.reduceSub, Array.replicate_succ, Array.replicate_zero, List.push_toArray, List.append_toArray, List.nil_append, List.cons_append]
  go_upto_region 3 with (go_at_call 15; refine (header_Right.calls _ _ _ _ _ _ _ _ _ hR).mono ?_; rintro e w1 ⟨rfl, hb1⟩)
  have hB1 := below_step (below_alloc (below_alloc (Below.refl w.heap.size w) (.cells #[.int .i64 a0, .int .i64 a1, .int .i64 a2, .int .i64 a3, .int .i64 a4, .int .i64 a5] 23)) (.cells #[.int .i64 p] 3)) hb1
  have hgh := blk_below (blk_alloc (blk_new w (.cells #[.int .i64 a0, .int .i64 a1, .int .i64 a2, .int .i64 a3, .int .i64 a4, .int .i64 a5] 23)) (.cells #[.int .i64 p] 3)) hb1
  have hgp := blk_below (blk_new (w.alloc (.cells #[.int .i64 a0, .int .i64 a1, .int .i64 a2, .int .i64 a3, .int .i64 a4, .int .i64 a5] 23)) (.cells #[.int .i64 p] 3)) hb1
  rw [World.size_alloc] at hgp
  generalize hgq : w.heap.size + 1 = gp at hgp ⊢
  obtain ⟨gh, hgr⟩ : ∃ gh, gh = w.heap.size := ⟨_, rfl⟩
  rw [← hgr] at hgh ⊢
  have HGQ := Lib.hid hgq
  have HGR := Lib.hid hgr
  clear hgq hgr hb1
  go_upto_region 4 with (fail)
  have hWn := (wr_new w.heap.size w1 hB1.size).below (below_alloc (Below.refl _ _) (.cells #[.pointer (some ⟨w1.heap.size, 0, none⟩)] 71))
  have hB2 := below_alloc (below_alloc hB1 (.cells #[.pointer none, .slice none 0 0] 76)) (.cells #[.pointer (some ⟨w1.heap.size, 0, none⟩)] 71)
  have hgh2 := blk_alloc (blk_alloc hgh (.cells #[.pointer none, .slice none 0 0] 76)) (.cells #[.pointer (some ⟨w1.heap.size, 0, none⟩)] 71)
  have hgp2 := blk_alloc (blk_alloc hgp (.cells #[.pointer none, .slice none 0 0] 76)) (.cells #[.pointer (some ⟨w1.heap.size, 0, none⟩)] 71)
  have hgw2 := blk_new (w1.alloc (.cells #[.pointer none, .slice none 0 0] 76)) (.cells #[.pointer (some ⟨w1.heap.size, 0, none⟩)] 71)
  rw [World.size_alloc] at hgw2
  have hbw : w.heap.size ≤ w1.heap.size := hB1.size
  generalize hgq : w1.heap.size + 1 = gw at hgw2 ⊢
  have HGW := Lib.hid hgq
  clear hgq
  generalize (w1.alloc (.cells #[.pointer none, .slice none 0 0] 76)).alloc (.cells #[.pointer (some ⟨w1.heap.size, 0, none⟩)] 71) = w2 at *
  obtain ⟨b, hbb⟩ : ∃ b, b = w1.heap.size := ⟨_, rfl⟩
  rw [← hbb] at hWn hgw2 hbw ⊢
  have HBB := Lib.hid hbb
  clear hbb hgh hgp hB1
  have hcw := (blk_cell hgw2 0).trans rfl
  go_upto_region 5 with (go_at_call 42; refine (text_some w.heap.size b _ _ w2 hWn (by decide) hB2.size).mono ?_; rintro e w3 ⟨rfl, hW3, hb3, hk3⟩)
  have hB3 := hB2.trans hb3
  have hgh3 := Kp.cells hk3 hgh2 (hWn.ne hgh2 (by decide)) (by decide)
  have hgp3 := Kp.cells hk3 hgp2 (hWn.ne hgp2 (by decide)) (by decide)
  have hgw3 := Kp.cells hk3 hgw2 (hWn.ne hgw2 (by decide)) (by decide)
  clear hk3 hb3 hgh2 hgp2 hgw2 hWn hB2 hcw
  go_upto_region 9 with (go_at_call 43; refine (fields _ _ _).mono ?_; rintro e w4 ⟨rfl, rfl⟩)
  have hB4 := below_alloc (below_alloc hB3 (.cells #[.pointer (some ⟨gh, 0, none⟩)] 81)) (.cells #[.pointer (some ⟨gp, 0, none⟩)] 82)
  have hW4 := (hW3.below (below_alloc (below_alloc (Below.refl _ _) (.cells #[.pointer (some ⟨gh, 0, none⟩)] 81)) (.cells #[.pointer (some ⟨gp, 0, none⟩)] 82)))
  have hgh4 := blk_alloc (blk_alloc hgh3 (.cells #[.pointer (some ⟨gh, 0, none⟩)] 81)) (.cells #[.pointer (some ⟨gp, 0, none⟩)] 82)
  have hgp4 := blk_alloc (blk_alloc hgp3 (.cells #[.pointer (some ⟨gh, 0, none⟩)] 81)) (.cells #[.pointer (some ⟨gp, 0, none⟩)] 82)
  have hgw4 := blk_alloc (blk_alloc hgw3 (.cells #[.pointer (some ⟨gh, 0, none⟩)] 81)) (.cells #[.pointer (some ⟨gp, 0, none⟩)] 82)
  have hq1 := blk_alloc (blk_new w3 (.cells #[.pointer (some ⟨gh, 0, none⟩)] 81)) (.cells #[.pointer (some ⟨gp, 0, none⟩)] 82)
  have hq2 := blk_new (w3.alloc (.cells #[.pointer (some ⟨gh, 0, none⟩)] 81)) (.cells #[.pointer (some ⟨gp, 0, none⟩)] 82)
  rw [World.size_alloc] at hq2
  have hblt : b < ((w3.alloc (.cells #[.pointer (some ⟨gh, 0, none⟩)] 81)).alloc (.cells #[.pointer (some ⟨gp, 0, none⟩)] 82)).heap.size := by
    rcases hW4 with ⟨_, v, hb, _⟩ | ⟨_, v, hb, _⟩ <;> exact blk_lt hb
  generalize (w3.alloc (.cells #[.pointer (some ⟨gh, 0, none⟩)] 81)).alloc (.cells #[.pointer (some ⟨gp, 0, none⟩)] 82) = w4 at *
  generalize w3.heap.size = B at *
  clear hgh3 hgp3 hgw3 hW3 hB3
  refine (wpIn_wide (n := 9)).1 ?_
  refine wpIn_rangeFunc_ownH (F := Fence.wide) (n := 9) rfl (by decide) (gf := 58) (lb := #[.pointer (some ⟨B, 0, none⟩), .pointer (some ⟨B + 1, 0, none⟩)]) rfl trivial (enters_of Try.func58 (by kernel_rfl) rfl)
    (fields_stops (n := 8) (by decide) B gh gp (fun k => k = b) (fun t => t = 5) w4 hq1 hq2 (fun k hk => by subst hk; exact hblt) ⟨by decide, by decide⟩)
    (fun h k => TK.then_ h k) (fun W l o o' _ ho hc _ => TK.put ho hc) (Below.refl _ _) (fun _ => rfl)
    (fun pre W => Wr w.heap.size b (headW (fval a0 a1 a2 a3 a4 a5 p) pre) W ∧ (W.heap[gh]? = some (.cells #[.int .i64 a0, .int .i64 a1, .int .i64 a2, .int .i64 a3, .int .i64 a4, .int .i64 a5] 23 (0, 0)) ∧ W.heap[gp]? = some (.cells #[.int .i64 p] 3 (0, 0)) ∧ W.heap[gw]? = some (.cells #[.pointer (some ⟨b, 0, none⟩)] 71 (0, 0))) ∧ Below w.heap.size w W)
    (fun _ _ _ => False)
    (OwnFrom.and (ownFrom_cells (fun pre X Y hs hc => wr_cells hs hc)) (OwnFrom.and (ownFrom_cells (fun pre X Y hs hc => ⟨hc _ _ hs.1 rfl, hc _ _ hs.2.1 rfl, hc _ _ hs.2.2 rfl⟩)) (ownFrom_below (Nat.le_refl _) (hB4.size))))
    (fun _ _ _ _ _ hs _ _ => hs)
    ⟨hW4, ⟨hgh4, hgp4, hgw4⟩, hB4⟩
    (fun x a' _ => a' = { tmps := #[.pointer (some a), .agg #[.int .i64 a0, .int .i64 a1, .int .i64 a2, .int .i64 a3, .int .i64 a4, .int .i64 a5], .int .i64 p, undef, .pointer (some ⟨gh, 0, none⟩), .pointer (some ⟨gp, 0, none⟩), .string ⟨#[]⟩, .int .i64 0, .pointer (some ⟨gw, 0, none⟩), (ptrA gh gp)[x]'(x.isLt), (sizA)[x]'(x.isLt), .pointer (some a), .bool false, .bool false, .agg #[.int .i64 a0, .int .i64 a1, .int .i64 a2, .int .i64 a3, .int .i64 a4, .int .i64 a5], .int .i64 p, .bool true, .bool false, .bool false, .agg #[.pointer none, .slice none 0 0], .pointer (some ⟨b, 0, none⟩), .pointer (some ⟨b, 0, none⟩), .tuple #[], .func (.func 58) #[] #[.pointer (some ⟨B, 0, none⟩), .pointer (some ⟨B + 1, 0, none⟩)], (ptrA gh gp)[x]'(x.isLt), (sizA)[x]'(x.isLt), undef, undef, undef, undef, undef, undef, undef, undef, undef, undef, undef, undef, undef, undef, undef], defers := [] }) (fun _ _ _ _ _ _ hs _ _ => hs) ?assign ?body ?done ?stop
  case assign =>
    intro l pre x W3 K hi hK
    unfold encF
    gi_wp2
    exact hK _ _ (KeepsFrom.refl _ _) (TK.refl _ _ _) hi rfl
  case body =>
    rintro l pre x a' W hl _ ⟨hWb, ⟨hh, hp, hw⟩, hBb⟩ rfl hlt
    obtain ⟨q, o, e1, e2, e3⟩ := enc_at a0 a1 a2 a3 a4 a5 p gh gp x
    have hcx := e3 W hh hp
    have hcw := (blk_cell hw 0).trans rfl
    obtain ⟨n, hn, hn1⟩ := HV.out x
    have hf := fsz_le x
    have hsn := Lib.hid (headW_snoc (fval a0 a1 a2 a3 a4 a5 p) pre x)
    have hlen := headW_len (fval a0 a1 a2 a3 a4 a5 p) pre
    rw [e1, e2]
    rw [hn] at hcx hsn
    generalize fsz x = s at *
    clear e1 e2 e3
    generalize headW (fval a0 a1 a2 a3 a4 a5 p) pre = L0 at *
    gi_wp2
    refine startX_ (m := 6) (S := fun w' => w'.cell? ⟨gw, 0, none⟩ = some (.pointer (some ⟨b, 0, none⟩)) ∧ w'.cell? ⟨q, o, none⟩ = some (.int .i64 (n : Nat))) (ds := [5]) #[false, false, false, false, false, false] (fun _ => trivial) (by kernel_rfl) (by kernel_rfl) rfl rfl ⟨hcw, hcx⟩ (fun hHeld => ?_); refine with_tabX HPut.tab8 HPut.bits8 (fun HT_ HW_ => ?_)
    refine pureX_ (i := 1) (N := (some 27)) (v := ?_) (a' := ?_) #[false, true, false, false, false, false] rfl rfl (any_of HT_.out (by kernel_rfl)) (fun _ _ _ h => h) (Or.inl ⟨by rfl, ?_⟩) ?_ ?_
    rotate_left
    · intro w'
      go_simp
      with_reducible rfl
    rotate_left
    · simp only [Act.put, List.setIfInBounds_toArray, List.set_cons_zero, List.set_cons_succ, i64_w, i32_w]
      rfl
    refine pureX_ (i := 2) (N := (some 28)) (v := ?_) (a' := ?_) #[false, true, true, false, false, false] rfl rfl (any_of HT_.out (by kernel_rfl)) (fun _ _ _ h => h) (Or.inl ⟨by rfl, ?_⟩) ?_ ?_
    rotate_left
    · intro w'
      go_simp
      with_reducible rfl
    rotate_left
    · simp only [Act.put, List.setIfInBounds_toArray, List.set_cons_zero, List.set_cons_succ, i64_w, i32_w]
      rfl
    refine pureX_ (i := 4) (N := (some 30)) (v := ?_) (a' := ?_) #[false, true, true, false, true, false] rfl rfl (any_of HT_.out (by kernel_rfl)) (fun _ _ _ h => h) (Or.inl ⟨by rfl, ?_⟩) ?_ ?_
    rotate_left
    · intro w'
      go_simp
      with_reducible rfl
    rotate_left
    · simp only [Act.put, List.setIfInBounds_toArray, List.set_cons_zero, List.set_cons_succ, i64_w, i32_w]
      rfl
    refine takeX_ (i := 0) (N := (some 26)) (v := ?_) (a' := ?_) #[true, true, true, false, true, false] rfl rfl (take_ofW HT_.out HW_.out (by kernel_rfl)) (fun _ _ _ h => h) (Or.inl ⟨by rfl, ?_⟩) hHeld ?_ ?_
    rotate_left
    · intro w' hS_
      go_simp
      obtain ⟨hS1_, hS2_⟩ := hS_; go_simp; with_reducible rfl
    rotate_left
    · simp only [Act.put, List.setIfInBounds_toArray, List.set_cons_zero, List.set_cons_succ, i64_w, i32_w]
      rfl
    refine takeX_ (i := 3) (N := (some 29)) (v := ?_) (a' := ?_) #[true, true, true, true, true, false] rfl rfl (take_ofW HT_.out HW_.out (by kernel_rfl)) (fun _ _ _ h => h) (Or.inl ⟨by rfl, ?_⟩) hHeld ?_ ?_
    rotate_left
    · intro w' hS_
      go_simp
      obtain ⟨hS1_, hS2_⟩ := hS_; go_simp; with_reducible rfl
    rotate_left
    · simp only [Act.put, List.setIfInBounds_toArray, List.set_cons_zero, List.set_cons_succ, i64_w, i32_w]
      rfl
    refine lastX_ (i := 5) (N := (some 31)) #[true, true, true, true, true, true] rfl rfl (one_of HT_.out (by kernel_rfl)) (by decide) (fun K hK => ?_)
    refine goesX_ Try.func44 (by kernel_rfl) rfl #[.pointer (some ⟨b, 0, none⟩), .int .i64 (n : Nat), .int .i64 (s : Nat)] (by rfl) rfl rfl (by (try simp only [List.map_toArray, List.map_cons, List.map_nil]); first | done | rfl) ?_
    refine (num_some w.heap.size b n s L0 _ hf.1 (by omega) (by omega) (hWb.below (below_drew (Below.refl _ _))) (by omega) hBb.size).mono ?_
    rintro e W5 ⟨rfl, hW5, hb5, hk5⟩
    refine ⟨_, rfl, ?_⟩
    refine hK.out _ _ ?_
    clear hK K
    refine normX_ (a' := ?_) ?_ ?_
    rotate_left
    · show Act.put _ (some 31) _ = _
      simp only [Act.put, List.setIfInBounds_toArray, List.set_cons_zero, List.set_cons_succ, i64_w, i32_w]
      rfl
    refine doneX_ (done_of HT_.out (by kernel_rfl)) ?_
    gi_wp2
    refine ⟨keepsFrom_wr (l := L0) hWb hb5.size hk5, tk_wr hb5.size hk5, ?_, ⟨?_, ?_, ?_⟩, ?_⟩
    · rw [hsn.out]; exact hW5
    · exact Kp.cells hk5 hh (hWb.ne hh (by decide)) (by decide)
    · exact Kp.cells hk5 hp (hWb.ne hp (by decide)) (by decide)
    · exact Kp.cells hk5 hw (hWb.ne hw (by decide)) (by decide)
    · exact (below_drew hBb).trans hb5
  case done =>
    rintro D zs W5 hDl rfl ⟨hWb, ⟨hh, hp, hw⟩, hBb⟩ hKD
    have hcw := (blk_cell hw 0).trans rfl
    have hlen := headW_len (fval a0 a1 a2 a3 a4 a5 p) (List.finRange 7)
    rw [List.length_finRange] at hlen
    have hput : R = headW (fval a0 a1 a2 a3 a4 a5 p) (List.finRange 7) ++ numL ((CrcLem.sumN 0 (headW (fval a0 a1 a2 a3 a4 a5 p) (List.finRange 7)) : Nat) : Int) 4 := HR.out
    generalize headW (fval a0 a1 a2 a3 a4 a5 p) (List.finRange 7) = L at *
    have hsum : CrcLem.sumN 0 L < 4294967296 := CrcLem.sumN_lt _ _ (by decide)
    have hw6 : wrap64 ((CrcLem.sumN 0 L : Nat) : Int) = ((CrcLem.sumN 0 L : Nat) : Int) := by unfold wrap64; omega
    gi_wp2
    go_wp2_with fail
    refine wp_strict ?_
    refine start_ (n := 7) (S := fun w' => w'.cell? ⟨gw, 0, none⟩ = some (.pointer (some ⟨b, 0, none⟩))) (ds := [6]) #[false, false, false, false, false, false, false] (by kernel_rfl) rfl rfl hcw (fun hHeld => ?_); refine with_tabW HPut9.tab9 HPut9.bits9 (fun HT_ HW_ => ?_)
    refine pure_ (i := 1) (N := (some 33)) (v := ?_) (a' := ?_) #[false, true, false, false, false, false, false] rfl rfl (any_of HT_.out (by kernel_rfl)) (fun _ _ _ h => h) (Or.inl ⟨by rfl, ?_⟩) ?_ ?_
    rotate_left
    · intro w'
      go_simp
      with_reducible rfl
    rotate_left
    · simp only [Act.put, List.setIfInBounds_toArray, List.set_cons_zero, List.set_cons_succ, i64_w, i32_w]
      rfl
    refine take_ (i := 0) (N := (some 32)) (v := ?_) (a' := ?_) #[true, true, false, false, false, false, false] rfl rfl (take_ofW HT_.out HW_.out (by kernel_rfl)) (fun _ _ _ h => h) (Or.inl ⟨by rfl, ?_⟩) hHeld ?_ ?_
    rotate_left
    · intro w' hS_
      go_simp
      go_simp; with_reducible rfl
    rotate_left
    · simp only [Act.put, List.setIfInBounds_toArray, List.set_cons_zero, List.set_cons_succ, i64_w, i32_w]
      rfl
    refine take_ (i := 2) (N := (some 34)) (v := ?_) (a' := ?_) #[true, true, true, false, false, false, false] rfl rfl (take_ofW HT_.out HW_.out (by kernel_rfl)) (fun _ _ _ h => h) (Or.inl ⟨by rfl, ?_⟩) hHeld ?_ ?_
    rotate_left
    · intro w' hS_
      go_simp
      go_simp; with_reducible rfl
    rotate_left
    · simp only [Act.put, List.setIfInBounds_toArray, List.set_cons_zero, List.set_cons_succ, i64_w, i32_w]
      rfl
    refine one_ (i := 3) (N := (some 35)) #[true, true, true, true, false, false, false] rfl rfl (one_of HT_.out (by kernel_rfl)) (by decide) (fun K hK => ?_)
    refine goes_ Try.func46 (by kernel_rfl) rfl #[.pointer (some ⟨b, 0, none⟩)] (by rfl) rfl rfl (by (try simp only [List.map_toArray, List.map_cons, List.map_nil]); first | done | rfl) ?_
    refine (string_some w.heap.size b L _ (hWb.below (below_drew (Below.refl _ _))) hBb.size).mono ?_
    rintro e w6 ⟨rfl, hW6, hb6, hk6⟩
    refine ⟨_, rfl, ?_⟩
    have hB6 := (below_drew hBb).trans hb6
    have hw6c := Kp.cells hk6 hw (hWb.ne hw (by decide)) (by decide)
    refine hK.out _ _ ((blk_cell hw6c 0).trans rfl) (fun hHeld => ?_)
    clear hK K
    refine norm_ (a' := ?_) ?_ ?_
    rotate_left
    · show Act.put _ (some 35) _ = _
      simp only [Act.put, List.setIfInBounds_toArray, List.set_cons_zero, List.set_cons_succ, i64_w, i32_w]
      rfl
    refine one_ (i := 4) (N := (some 36)) #[true, true, true, true, true, false, false] rfl rfl (one_of HT_.out (by kernel_rfl)) (by decide) (fun K hK => ?_)
    refine goes_ Try.func45 (by kernel_rfl) rfl #[.pointer (some a), .string ⟨L.toArray⟩] (by rfl) rfl rfl (by (try simp only [List.map_toArray, List.map_cons, List.map_nil]); first | done | rfl) ?_
    refine (CrcW.sum_at a _ _ (by show L.toArray.size ≤ _; simp; omega) (fun j hj => (hB6.cell (World.block_lt_of_cell? w _ (HTab.out j hj))).trans (HTab.out j hj))).mono ?_
    rintro e w7 ⟨rfl, ⟨n7, rfl⟩⟩
    refine ⟨_, rfl, ?_⟩
    have hnum := num_some w.heap.size b (CrcLem.sumN 0 L) 4 L (w6.drewN n7) (by decide) (by decide) (by omega) (hW6.below (pw_below_drewN (Below.refl _ _) n7)) (by omega) hB6.size
    refine hK.out _ _ hHeld (fun hHeld => ?_)
    clear hK K
    refine norm_ (a' := ?_) ?_ ?_
    rotate_left
    · show Act.put _ (some 36) _ = _
      simp only [Act.put, List.setIfInBounds_toArray, List.set_cons_zero, List.set_cons_succ, i64_w, i32_w]
      rfl
    refine pure_ (i := 5) (N := (some 37)) (v := ?_) (a' := ?_) #[true, true, true, true, true, true, false] rfl rfl (any_of HT_.out (by kernel_rfl)) (fun _ _ _ h => h) (Or.inl ⟨by rfl, ?_⟩) ?_ ?_
    rotate_left
    · intro w'
      go_simp
      with_reducible rfl
    rotate_left
    · simp only [Act.put, List.setIfInBounds_toArray, List.set_cons_zero, List.set_cons_succ, i64_w, i32_w]
      rfl
    refine last_ (i := 6) (N := (some 38)) #[true, true, true, true, true, true, true] rfl rfl (one_of HT_.out (by kernel_rfl)) (by decide) (fun K hK => ?_)
    refine goes_ Try.func44 (by kernel_rfl) rfl #[.pointer (some ⟨b, 0, none⟩), .int .i64 (wrap64 ((CrcLem.sumN 0 L : Nat) : Int)), .int .i64 4] (by rfl) rfl rfl (by (try simp only [List.map_toArray, List.map_cons, List.map_nil]); first | done | rfl) ?_
    refine ((show Calls Try.prog 44 #[.pointer (some ⟨b, 0, none⟩), .int .i64 (wrap64 ((CrcLem.sumN 0 L : Nat) : Int)), .int .i64 4] (w6.drewN n7) _ from by rw [hw6]; exact hnum)).mono ?_
    rintro e w8 ⟨rfl, hW8, hb8, hk8⟩
    refine ⟨_, rfl, ?_⟩
    have hw9 := Kp.cells hk8 (show (w6.drewN n7).heap[gw]? = some _ from hw6c) (hW6.ne hw6c (by decide)) (by decide)
    refine hK.out _ _ ?_
    clear hK K
    refine norm_ (a' := ?_) ?_ ?_
    rotate_left
    · show Act.put _ (some 38) _ = _
      simp only [Act.put, List.setIfInBounds_toArray, List.set_cons_zero, List.set_cons_succ, i64_w, i32_w]
      rfl
    refine done_ (done_of HT_.out (by kernel_rfl)) ?_
    refine strict_normal ?_
    have hcw9 := (blk_cell hw9 0).trans rfl
    have hB9 := (hB6.trans (pw_below_drewN (Below.refl _ _) n7 |>.mono hB6.size)).trans hb8
    go_wp2_with (go_at_call 46; refine (string_some w.heap.size b _ _ hW8 hB9.size).mono ?_; rintro e w9 ⟨rfl, hW9, hb9, hk9⟩)
    have hDb : some D ≠ some b := fun e => by
      cases e
      rcases hWb with ⟨_, v, hb, _⟩ | ⟨_, v, hb, _⟩ <;> (rw [hKD] at hb; cases hb)
    have hD6 := hk6 D _ hKD hDb (fun c fz e => by cases e)
    have hD8 := hk8 D _ (show (w6.drewN n7).heap[D]? = some _ from hD6) hDb (fun c fz e => by cases e)
    have hD9 := hk9 D _ hD8 hDb (fun c fz e => by cases e)
    refine leavesM (B := w.heap.size) [D] _ ((Marked.nil _ _).cons (Nat.le_trans hB4.size hDl) hD9 (by simp)) ?_
    intro W' ⟨hs, hb⟩
    refine ⟨_, results_tmp2 rfl _ _ _, ?_, (hB9.trans hb9).trans hb⟩
    rw [hput]; rfl
  case stop =>
    rintro D c' pre W5 hD _ h _
    exact h.elim
set_option maxHeartbeats 2000000 in
set_option maxRecDepth 100000 in
theorem hp_no (a : Addr) (a0 a1 a2 a3 a4 a5 p : Int) (w : World) (hR : header_Right.f a0 a1 a2 a3 a4 a5 p = some false) :
    Calls Try.prog 12 #[.pointer (some a), .agg #[.int .i64 a0, .int .i64 a1, .int .i64 a2, .int .i64 a3, .int .i64 a4, .int .i64 a5], .int .i64 p] w fun e w' => e = .returned (.tuple #[.string ⟨#[]⟩, .int .i64 1]) ∧ Below w.heap.size w w' := by
  have hu := Try.underlying23
  refine calls_marks Try.func12 rfl ?_
  simp only [Try.ntmps12, List.size_toArray, List.length_cons, List.length_nil, Nat.reduceAdd, Nat.reduceSub, Array.replicate_succ, Array.replicate_zero, List.push_toArray, List.append_toArray, List.nil_append, List.cons_append]
  go_wp2_with (go_at_call 15; refine (header_Right.calls _ _ _ _ _ _ _ _ _ hR).mono ?_; rintro e w1 ⟨rfl, hb1⟩)
  have hB1 := below_step (below_alloc (below_alloc (Below.refl w.heap.size w) (.cells #[.int .i64 a0, .int .i64 a1, .int .i64 a2, .int .i64 a3, .int .i64 a4, .int .i64 a5] 23)) (.cells #[.int .i64 p] 3)) hb1
  refine leavesM (B := w.heap.size) [] _ (Marked.nil _ _) ?_
  intro W' ⟨hs, hb⟩
  exact ⟨_, results_tmp2 rfl _ _ _, rfl, hB1.trans hb⟩
set_option maxHeartbeats 2000000 in
set_option maxRecDepth 100000 in
theorem hp_nil (a0 a1 a2 a3 a4 a5 p : Int) (w : World) :
    Calls Try.prog 12 #[.pointer none, .agg #[.int .i64 a0, .int .i64 a1, .int .i64 a2, .int .i64 a3, .int .i64 a4, .int .i64 a5], .int .i64 p] w fun e w' => e = .returned (.tuple #[.string ⟨#[]⟩, .int .i64 1]) ∧ Below w.heap.size w w' := by
  have hu := Try.underlying23
  refine calls_marks Try.func12 rfl ?_
  simp only [Try.ntmps12, List.size_toArray, List.length_cons, List.length_nil, Nat.reduceAdd, Nat.reduceSub, Array.replicate_succ, Array.replicate_zero, List.push_toArray, List.append_toArray, List.nil_append, List.cons_append]
  go_wp2_with fail
  refine leavesM (B := w.heap.size) [] _ (Marked.nil _ _) ?_
  intro W' ⟨hs, hb⟩
  exact ⟨_, results_tmp2 rfl _ _ _, rfl, (below_alloc (below_alloc (Below.refl w.heap.size w) (.cells #[.int .i64 a0, .int .i64 a1, .int .i64 a2, .int .i64 a3, .int .i64 a4, .int .i64 a5] 23)) (.cells #[.int .i64 p] 3)).trans hb⟩
theorem header_Put.calls (A0 : Option Addr) (c0 : Nat) (l0 : List Int) (a1_0 a1_1 a1_2 a1_3 a1_4 a1_5 a2 : Int) (r1 : ByteArray) (r2 : Int) (w : World) (hr0 : Kd.C (Kd.int .u32) w A0 l0.length l0) (hc0 : l0.length ≤ c0) (h : header_Put.f l0 a1_0 a1_1 a1_2 a1_3 a1_4 a1_5 a2 = some (r1, r2)) :
    Calls Try.prog 12 #[.pointer A0, .agg #[.int .i64 a1_0, .int .i64 a1_1, .int .i64 a1_2, .int .i64 a1_3, .int .i64 a1_4, .int .i64 a1_5], .int .i64 a2] w fun e w' => e = .returned (.tuple #[.string r1, .int .i64 r2]) ∧ Below w.heap.size w w' := by
  unfold header_Put.f at h
  split at h
  · rename_i he
    subst he
    obtain ⟨t, hT, h⟩ := Option.bind_eq_some_iff.1 h
    obtain ⟨a, rfl, hTab⟩ := CrcX.tab_at hr0
    cases t with
    | true =>
      rw [if_pos rfl] at h
      split at h
      · rename_i hv
        simp only [Option.some.injEq, Prod.mk.injEq] at h
        obtain ⟨rfl, rfl⟩ := h
        refine hp_run a _ _ _ _ _ _ _ w hTab hT ?_
        rintro ⟨i, hi⟩
        match i, hi with
        | 0, _ => exact ⟨a1_0.toNat, by show a1_0 = _; omega, by omega⟩
        | 1, _ => exact ⟨a1_2.toNat, by show a1_2 = _; omega, by omega⟩
        | 2, _ => exact ⟨a1_1.toNat, by show a1_1 = _; omega, by omega⟩
        | 3, _ => exact ⟨a1_3.toNat, by show a1_3 = _; omega, by omega⟩
        | 4, _ => exact ⟨a1_4.toNat, by show a1_4 = _; omega, by omega⟩
        | 5, _ => exact ⟨a1_5.toNat, by show a1_5 = _; omega, by omega⟩
        | 6, _ => exact ⟨a2.toNat, by show a2 = _; omega, by omega⟩
      · cases h
    | false =>
      rw [if_neg (by decide)] at h
      simp only [Option.some.injEq, Prod.mk.injEq] at h
      obtain ⟨rfl, rfl⟩ := h
      exact hp_no a _ _ _ _ _ _ _ w hT
  · cases h
def header_Put_nil.f (_ : Unit) (a0 a1 a2 a3 a4 a5 p : Int) : Option (ByteArray × Int) := some (⟨#[]⟩, 1)
theorem header_Put_nil.calls (a0 : Unit) (a1_0 a1_1 a1_2 a1_3 a1_4 a1_5 a2 : Int) (r1 : ByteArray) (r2 : Int) (w : World) (h : header_Put_nil.f a0 a1_0 a1_1 a1_2 a1_3 a1_4 a1_5 a2 = some (r1, r2)) :
    Calls Try.prog 12 #[.pointer none, .agg #[.int .i64 a1_0, .int .i64 a1_1, .int .i64 a1_2, .int .i64 a1_3, .int .i64 a1_4, .int .i64 a1_5], .int .i64 a2] w fun e w' => e = .returned (.tuple #[.string r1, .int .i64 r2]) ∧ Below w.heap.size w w' := by
  simp only [header_Put_nil.f, Option.some.injEq, Prod.mk.injEq] at h
  obtain ⟨rfl, rfl⟩ := h
  exact hp_nil _ _ _ _ _ _ _ w
end

/-! ### crc_Make: function 13 -/
def crc_Make.f : Option (List Int) := some CrcX.crcTab
theorem crc_Make.calls (r : List Int) (w : World) (h : crc_Make.f = some r) :
    Calls Try.prog 13 #[] w fun e w' => ∃ v0_ : Value, e = .returned (CrcX.tbp v0_) ∧ Kd.R (Kd.int .u32) 87 w' w.heap.size (fun _ => True) v0_ r ∧ Below w.heap.size w w' := by
  obtain rfl := Option.some.inj h
  exact CrcX.make_row w

end Go.Proofs.Ythdlikiakegekaa.S
