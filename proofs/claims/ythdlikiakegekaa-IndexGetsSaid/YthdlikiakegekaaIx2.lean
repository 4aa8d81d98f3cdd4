-- Written for this claim by a program of the session (myprint.py), out of the translation's own print; Lean checks it.
import Derived.Test.YthdlikiakegekaaIx0
namespace Go.Proofs.Ythdlikiakegekaa.S
open Go.RowKit Go.Proofs.YthdlikiakegekaaW.PrintWords Go.Proofs.YthdlikiakegekaaW.PrintLast Go.Proofs.YthdlikiakegekaaW.PrintMore
attribute [local go_sem] max2_int min2_int max_two min_two max_three min_three max_four min_four   -- for this text's walks alone
set_option linter.unusedVariables false
set_option linter.unusedSimpArgs false

/-! ### crc_Make: function 13 -/
def crc_Make.f : Option (List Int) := some CrcX.crcTab
theorem crc_Make.calls (r : List Int) (w : World) (h : crc_Make.f = some r) :
    Calls Try.prog 13 #[] w fun e w' => ∃ v0_ : Value, e = .returned (CrcX.tbp v0_) ∧ Kd.R (Kd.int .u32) 87 w' w.heap.size (fun _ => True) v0_ r ∧ Below w.heap.size w w' := by
  obtain rfl := Option.some.inj h
  exact CrcX.make_row w

/-! ### index_Right: function 23 -/
mutual
def index_Right.l0 : Nat → List (S53) → List (S53) → Int → Int → Int → Int → Option (Bool)
  | 0, _, _, _, _, _, _ => none
  | k + 1, x0, x7, x8, x9, x102000, x102001 => if x9 < x8 then (if 0 ≤ x9 then (if x9 < (x7.length : Int) then (if ((rd_T53 x7 x9).f0) ≤ x102000 then (index_Right.j1 k x0 x9 x7 x8 x9 true x102000 x102001 ((rd_T53 x7 x9).f0) ((rd_T53 x7 x9).f1)) else (index_Right.j1 k x0 x9 x7 x8 x9 (decide (((rd_T53 x7 x9).f0) > 2147483648)) x102000 x102001 ((rd_T53 x7 x9).f0) ((rd_T53 x7 x9).f1))) else (none)) else (none)) else (some (decide ((x0.length : Int) ≤ 262144)))
def index_Right.j1 : Nat → List (S53) → Int → List (S53) → Int → Int → Bool → Int → Int → Int → Int → Option (Bool)
  | 0, _, _, _, _, _, _, _, _, _, _ => none
  | k + 1, x0, x4, x7, x8, x9, x14, x102000, x102001, x104000, x104001 => if x14 = true then (some false) else (if x104001 < x102001 then (some false) else (if x104001 > 131072 then (some false) else (if x4 = 0 then (if x104001 > 0 then (some false) else (index_Right.l0 k x0 x7 x8 (wrap64 (x9 + 1)) x104000 x104001)) else (index_Right.l0 k x0 x7 x8 (wrap64 (x9 + 1)) x104000 x104001))))
end
def index_Right.f (k : Nat) (l0 : List (S53)) : Option (Bool) := index_Right.l0 k l0 l0 (l0.length : Int) 0 (-1) 0
theorem index_Right.mono_l : ∀ k, (∀ y0 y1 y2 y3 y4 y5, LeO (index_Right.l0 k y0 y1 y2 y3 y4 y5) (index_Right.l0 (k + 1) y0 y1 y2 y3 y4 y5)) ∧ (∀ y0 y1 y2 y3 y4 y5 y6 y7 y8 y9, LeO (index_Right.j1 k y0 y1 y2 y3 y4 y5 y6 y7 y8 y9) (index_Right.j1 (k + 1) y0 y1 y2 y3 y4 y5 y6 y7 y8 y9))
  | 0 => ⟨fun _ _ _ _ _ _ r h => by simp [index_Right.l0] at h, fun _ _ _ _ _ _ _ _ _ _ r h => by simp [index_Right.j1] at h⟩
  | k + 1 => by
    obtain ⟨ih0, ih1⟩ := index_Right.mono_l k
    refine ⟨?_, ?_⟩
    · intro y0 y1 y2 y3 y4 y5
      unfold index_Right.l0
      repeat' first
      | (with_reducible exact ih0 _ _ _ _ _ _)
      | (with_reducible exact ih1 _ _ _ _ _ _ _ _ _ _)
      | (with_reducible exact LeO.refl _)
      | (with_reducible exact LeO.none _)
      | (with_reducible refine LeO.ite ?_ ?_)
      | (with_reducible refine LeO.bind ?_ (fun _ => ?_))
      | exact ih0 _ _ _ _ _ _
      | exact ih1 _ _ _ _ _ _ _ _ _ _
      | exact LeO.none _
      | refine LeO.ite ?_ ?_
      | refine LeO.bind ?_ (fun _ => ?_)
    · intro y0 y1 y2 y3 y4 y5 y6 y7 y8 y9
      unfold index_Right.j1
      repeat' first
      | (with_reducible exact ih0 _ _ _ _ _ _)
      | (with_reducible exact ih1 _ _ _ _ _ _ _ _ _ _)
      | (with_reducible exact LeO.refl _)
      | (with_reducible exact LeO.none _)
      | (with_reducible refine LeO.ite ?_ ?_)
      | (with_reducible refine LeO.bind ?_ (fun _ => ?_))
      | exact ih0 _ _ _ _ _ _
      | exact ih1 _ _ _ _ _ _ _ _ _ _
      | exact LeO.none _
      | refine LeO.ite ?_ ?_
      | refine LeO.bind ?_ (fun _ => ?_)
theorem index_Right.mono : ∀ a0 k, LeO (index_Right.f k a0) (index_Right.f (k + 1) a0) := by
  intro a0 k
  obtain ⟨ih0, ih1⟩ := index_Right.mono_l k
  unfold index_Right.f
  repeat' first
      | (with_reducible exact ih0 _ _ _ _ _ _)
      | (with_reducible exact ih1 _ _ _ _ _ _ _ _ _ _)
      | (with_reducible exact LeO.refl _)
      | (with_reducible exact LeO.none _)
      | (with_reducible refine LeO.ite ?_ ?_)
      | (with_reducible refine LeO.bind ?_ (fun _ => ?_))
      | exact ih0 _ _ _ _ _ _
      | exact ih1 _ _ _ _ _ _ _ _ _ _
      | exact LeO.none _
      | refine LeO.ite ?_ ?_
      | refine LeO.bind ?_ (fun _ => ?_)
set_option maxHeartbeats 8000000 in
set_option maxRecDepth 100000 in
theorem index_Right.calls (k : Nat) (A0 : Option Addr) (c0 : Nat) (l0 : List (S53)) (r : Bool) (w : World) (hr0 : Kd.C k53 w A0 l0.length l0) (hc0 : l0.length ≤ c0) (h : index_Right.f k l0 = some r) :
    Calls Try.prog 23 #[.slice A0 l0.length c0] w fun e w' => e = .returned (.bool r) ∧ Below w.heap.size w w' := by
  have hu53 := Try.underlying53
  have HR0 := Aside0.mk hr0
  have HC0 := Aside0.mk hc0
  clear hr0 hc0
  have HB := Aside0.mk (Below.refl w.heap.size w)
  have H : (index_Right.l0 k l0 l0 (l0.length : Int) 0 (-1) 0) = some r := h
  clear h
  have H' := Aside0.mk H
  clear H
  go_enter Try.func23, Try.ntmps23
  go_wp2_with (first | ((with_reducible refine gate_dst (N := 3) rfl ?_); refine box_event ?hg (N := 3) ?hd (cs := #[.int .i64 0, .int .i64 0]) (t := 53) ?hr ?_; (case hd => rfl); (case hg => rfl); (case hr => first | (go_simp; done) | (go_simp; rfl)); intro gb101 hg w2 hbox hb; have n0_ := Aside0.mk (below_step (by repeat (first | (with_reducible first | exact HB.out | apply below_alloc | apply pw_below_drewN | apply below_drew1) | exact HB.out)) hb); have n1_ := Aside0.mk (hbox); have n2_ := Aside0.mk ((by rw [hg]; exact (below_size (by repeat (first | (with_reducible first | exact HB.out | apply below_alloc | apply pw_below_drewN | apply below_drew1) | exact HB.out))) : w.heap.size ≤ gb101)); have n3_ := Aside0.mk ((by rw [hg]; exact (below_size (by repeat (first | (with_reducible first | exact HB.out | apply below_alloc | apply pw_below_drewN | apply below_drew1) | exact HB.out))) : w.heap.size ≤ gb101)); clear HB; have HB := n0_; have BK101 := n1_; have GW101 := n2_; have GE101 := n3_; clear n0_ n1_ n2_ n3_; clear hb hbox hg; have hcz3_0 : w2.cell? ⟨gb101, 0, none⟩ = some (.int .i64 0) := (blk_cell BK101.out 0).trans rfl; have hcz3_1 : w2.cell? ⟨gb101, 1, none⟩ = some (.int .i64 0) := (blk_cell BK101.out 1).trans rfl; have hfz3_0 := blk_frozen BK101.out 0; have hfz3_1 := blk_frozen BK101.out 1))
  go_loopg [9] k (fun kq v9 w' => ∃ (x9_1 : Int) (x102000_1 : Int) (x102001_1 : Int), v9 = .int .i64 x9_1 ∧ Aside0 (index_Right.l0 kq l0 l0 (l0.length : Int) x9_1 x102000_1 x102001_1 = some r) ∧ Aside0 (kq ≤ k) ∧ Aside0 (w'.heap[gb101]? = some (.cells #[.int .i64 x102000_1, .int .i64 x102001_1] 53 (0, 0))) ∧ Aside0 (Below w.heap.size w w'))
  case atStart => exact ⟨(0), ((-1)), (0), (by first | rfl | (simp; done) | (simp [*]; done)), H', ⟨Nat.le_refl _⟩, ⟨by (with_reducible repeat (first | refine blk_drewN ?_ _ | refine blk_drew ?_ | refine blk_alloc ?_ _)); refine blk_put (cs := #[.int .i64 (-1), .int .i64 0]) ?_ 1 _ rfl; (with_reducible repeat (first | refine blk_drewN ?_ _ | refine blk_drew ?_ | refine blk_alloc ?_ _)); refine blk_put (cs := #[.int .i64 0, .int .i64 0]) ?_ 0 _ rfl; (with_reducible repeat (first | refine blk_drewN ?_ _ | refine blk_drew ?_ | refine blk_alloc ?_ _)); exact BK101.out⟩, ⟨by repeat (first | (with_reducible first | exact HB.out | apply below_alloc | apply pw_below_drewN | apply below_drew1 | refine below_set ?_ GE101.out) | exact HB.out)⟩⟩
  case round =>
    clear H'
    try clear c2
    try clear p2
    try clear hcz3_0
    try clear hcz3_1
    try clear hfz3_0
    try clear hfz3_1
    obtain ⟨x9_1, x102000_1, x102001_1, rfl, HA, HK1, BK101, HB⟩ := hrel
    cases gk with
    | zero => exact absurd HA.out (by simp [index_Right.l0])
    | succ k1 =>
      have H := HA.out
      clear HA
      simp only [index_Right.l0] at H
      by_cases c4 : x9_1 < (l0.length : Int)
      · rw [if_pos c4] at H
        have c4b0 : decide (x9_1 < (l0.length : Int)) = true := decide_eq_true c4
        clear c4
        by_cases c5 : 0 ≤ x9_1
        · rw [if_pos c5] at H
          have c5b0 : decide (0 ≤ x9_1) = true := decide_eq_true c5
          clear c5
          by_cases c6 : x9_1 < (l0.length : Int)
          · rw [if_pos c6] at H
            have c6b0 : decide (x9_1 < (l0.length : Int)) = true := decide_eq_true c6
            clear c6
            have HC7 := Aside0.mk H
            clear H
            have p102 : 0 ≤ (x9_1 : Int) := of_decide_eq_true (by first | (with_reducible assumption) | assumption)
            have q102 : x9_1 < (l0.length : Int) := of_decide_eq_true (by first | (with_reducible assumption) | assumption)
            obtain ⟨ad102, e102, hx102_0, hx102_1⟩ := at_T53 HR0.out x9_1 p102 q102
            cases e102
            replace hx102_0 := (HB.out.cell (World.block_lt_of_cell? w _ hx102_0)).trans hx102_0
            replace hx102_1 := (HB.out.cell (World.block_lt_of_cell? w _ hx102_1)).trans hx102_1
            replace p102 := eq_true p102
            replace q102 := eq_true q102
            go_upto_region 5 with (first | ((with_reducible refine gate_dst (N := 5) rfl ?_); refine box_event ?hg (N := 5) ?hd (cs := #[.int .i64 0, .int .i64 0]) (t := 53) ?hr ?_; (case hd => rfl); (case hg => rfl); (case hr => first | (go_simp; done) | (go_simp; rfl)); intro gb103 hg w8 hbox hb; have n0_ := Aside0.mk (blk_below (g := gb101) (o := .cells #[.int .i64 x102000_1, .int .i64 x102001_1] 53 (0, 0)) (by (with_reducible repeat (first | refine blk_drewN ?_ _ | refine blk_drew ?_ | refine blk_alloc ?_ _)); exact BK101.out) hb); have n1_ := Aside0.mk (below_step (by repeat (first | (with_reducible first | exact HB.out | apply below_alloc | apply pw_below_drewN | apply below_drew1 | refine below_set ?_ GE101.out) | exact HB.out)) hb); have n2_ := Aside0.mk (hbox); have n3_ := Aside0.mk ((by rw [hg]; exact (below_size (by repeat (first | (with_reducible first | exact HB.out | apply below_alloc | apply pw_below_drewN | apply below_drew1 | refine below_set ?_ GE101.out) | exact HB.out))) : w.heap.size ≤ gb103)); have n4_ := Aside0.mk ((by rw [hg]; exact (below_size (by repeat (first | (with_reducible first | exact HB.out | apply below_alloc | apply pw_below_drewN | apply below_drew1 | refine below_set ?_ GE101.out) | exact HB.out))) : w.heap.size ≤ gb103)); have n5_ := Aside0.mk ((by rw [hg]; exact Nat.ne_of_lt (blk_lt (g := gb101) (o := .cells #[.int .i64 x102000_1, .int .i64 x102001_1] 53 (0, 0)) (by (with_reducible repeat (first | refine blk_drewN ?_ _ | refine blk_drew ?_ | refine blk_alloc ?_ _)); exact BK101.out)) : gb101 ≠ gb103)); have n6_ := Aside0.mk ((by rw [hg]; exact Nat.ne_of_gt (blk_lt (g := gb101) (o := .cells #[.int .i64 x102000_1, .int .i64 x102001_1] 53 (0, 0)) (by (with_reducible repeat (first | refine blk_drewN ?_ _ | refine blk_drew ?_ | refine blk_alloc ?_ _)); exact BK101.out)) : gb103 ≠ gb101)); clear BK101; clear HB; have BK101 := n0_; have HB := n1_; have BK103 := n2_; have GW103 := n3_; have GE103 := n4_; have NB101_103 := n5_; have NB103_101 := n6_; clear n0_ n1_ n2_ n3_ n4_ n5_ n6_; clear hb hbox hg; have hnb9 := NB103_101.out; have hnc9 := NB101_103.out; have hcz10_0 : w8.cell? ⟨gb103, 0, none⟩ = some (.int .i64 0) := (blk_cell BK103.out 0).trans rfl; have hcz10_1 : w8.cell? ⟨gb103, 1, none⟩ = some (.int .i64 0) := (blk_cell BK103.out 1).trans rfl; have hfz10_0 := blk_frozen BK103.out 0; have hfz10_1 := blk_frozen BK103.out 1))
            (try simp only [Act.put, List.setIfInBounds_toArray, List.set_cons_zero, List.set_cons_succ])
            go_cut [14] (fun v14 wc => ∃ (kq : Nat) (x14_6 : Bool), v14 = .bool x14_6 ∧ Aside0 (index_Right.j1 kq l0 x9_1 l0 (l0.length : Int) x9_1 x14_6 x102000_1 x102001_1 ((rd_T53 l0 x9_1).f0) ((rd_T53 l0 x9_1).f1) = some r) ∧ Aside0 (kq ≤ k1) ∧ Aside0 (wc.heap[gb101]? = some (.cells #[.int .i64 x102000_1, .int .i64 x102001_1] 53 (0, 0))) ∧ Aside0 (wc.heap[gb103]? = some (.cells #[.int .i64 ((rd_T53 l0 x9_1).f0), .int .i64 ((rd_T53 l0 x9_1).f1)] 53 (0, 0))) ∧ Aside0 (Below w.heap.size w wc))
            case first =>
              have H := HC7.out
              clear HC7
              by_cases c11 : ((rd_T53 l0 x9_1).f0) ≤ x102000_1
              · rw [if_pos c11] at H
                have c11b0 : decide (((rd_T53 l0 x9_1).f0) ≤ x102000_1) = true := decide_eq_true c11
                clear c11
                (first | rw [c11b0] | (simp only [i64_w, i32_w]; rw [c11b0]) | skip)
                have H' := Aside0.mk H
                clear H
                have hnb12 := NB103_101.out
                have hnc12 := NB101_103.out
                have hcz13_0 : w8.cell? ⟨gb103, 0, none⟩ = some (.int .i64 0) := (blk_cell BK103.out 0).trans rfl
                have hcz13_1 : w8.cell? ⟨gb103, 1, none⟩ = some (.int .i64 0) := (blk_cell BK103.out 1).trans rfl
                have hfz13_0 := blk_frozen BK103.out 0
                have hfz13_1 := blk_frozen BK103.out 1
                have hcz14_0 : w8.cell? ⟨gb101, 0, none⟩ = some (.int .i64 x102000_1) := (blk_cell BK101.out 0).trans rfl
                have hcz14_1 : w8.cell? ⟨gb101, 1, none⟩ = some (.int .i64 x102001_1) := (blk_cell BK101.out 1).trans rfl
                have hfz14_0 := blk_frozen BK101.out 0
                have hfz14_1 := blk_frozen BK101.out 1
                go_wp2
                go_meet
                case rel => exact ⟨_, (true), (by first | rfl | (simp; done) | (simp [*]; done)), H', ⟨by have := HK1.out; first | omega | exact Nat.le_refl _⟩, ⟨by (with_reducible repeat (first | refine blk_drewN ?_ _ | refine blk_drew ?_ | refine blk_alloc ?_ _)); refine blk_far ?_ NB101_103.out _; (with_reducible repeat (first | refine blk_drewN ?_ _ | refine blk_drew ?_ | refine blk_alloc ?_ _)); refine blk_far ?_ NB101_103.out _; (with_reducible repeat (first | refine blk_drewN ?_ _ | refine blk_drew ?_ | refine blk_alloc ?_ _)); exact BK101.out⟩, ⟨by (with_reducible repeat (first | refine blk_drewN ?_ _ | refine blk_drew ?_ | refine blk_alloc ?_ _)); refine blk_put (cs := #[.int .i64 ((rd_T53 l0 x9_1).f0), .int .i64 0]) ?_ 1 _ rfl; (with_reducible repeat (first | refine blk_drewN ?_ _ | refine blk_drew ?_ | refine blk_alloc ?_ _)); refine blk_put (cs := #[.int .i64 0, .int .i64 0]) ?_ 0 _ rfl; (with_reducible repeat (first | refine blk_drewN ?_ _ | refine blk_drew ?_ | refine blk_alloc ?_ _)); exact BK103.out⟩, ⟨by repeat (first | (with_reducible first | exact HB.out | apply below_alloc | apply pw_below_drewN | apply below_drew1 | refine below_set ?_ GE101.out | refine below_set ?_ GE103.out) | exact HB.out)⟩⟩
              · rw [if_neg c11] at H
                have c11b0 : decide (((rd_T53 l0 x9_1).f0) ≤ x102000_1) = false := decide_eq_false c11
                clear c11
                (first | rw [c11b0] | (simp only [i64_w, i32_w]; rw [c11b0]) | skip)
                have H' := Aside0.mk H
                clear H
                have hnb15 := NB103_101.out
                have hnc15 := NB101_103.out
                have hcz16_0 : w8.cell? ⟨gb103, 0, none⟩ = some (.int .i64 0) := (blk_cell BK103.out 0).trans rfl
                have hcz16_1 : w8.cell? ⟨gb103, 1, none⟩ = some (.int .i64 0) := (blk_cell BK103.out 1).trans rfl
                have hfz16_0 := blk_frozen BK103.out 0
                have hfz16_1 := blk_frozen BK103.out 1
                have hcz17_0 : w8.cell? ⟨gb101, 0, none⟩ = some (.int .i64 x102000_1) := (blk_cell BK101.out 0).trans rfl
                have hcz17_1 : w8.cell? ⟨gb101, 1, none⟩ = some (.int .i64 x102001_1) := (blk_cell BK101.out 1).trans rfl
                have hfz17_0 := blk_frozen BK101.out 0
                have hfz17_1 := blk_frozen BK101.out 1
                go_wp2
                go_meet
                case rel => exact ⟨_, (decide (((rd_T53 l0 x9_1).f0) > 2147483648)), (by first | rfl | (simp; done) | (simp [*]; done)), H', ⟨by have := HK1.out; first | omega | exact Nat.le_refl _⟩, ⟨by (with_reducible repeat (first | refine blk_drewN ?_ _ | refine blk_drew ?_ | refine blk_alloc ?_ _)); refine blk_far ?_ NB101_103.out _; (with_reducible repeat (first | refine blk_drewN ?_ _ | refine blk_drew ?_ | refine blk_alloc ?_ _)); refine blk_far ?_ NB101_103.out _; (with_reducible repeat (first | refine blk_drewN ?_ _ | refine blk_drew ?_ | refine blk_alloc ?_ _)); exact BK101.out⟩, ⟨by (with_reducible repeat (first | refine blk_drewN ?_ _ | refine blk_drew ?_ | refine blk_alloc ?_ _)); refine blk_put (cs := #[.int .i64 ((rd_T53 l0 x9_1).f0), .int .i64 0]) ?_ 1 _ rfl; (with_reducible repeat (first | refine blk_drewN ?_ _ | refine blk_drew ?_ | refine blk_alloc ?_ _)); refine blk_put (cs := #[.int .i64 0, .int .i64 0]) ?_ 0 _ rfl; (with_reducible repeat (first | refine blk_drewN ?_ _ | refine blk_drew ?_ | refine blk_alloc ?_ _)); exact BK103.out⟩, ⟨by repeat (first | (with_reducible first | exact HB.out | apply below_alloc | apply pw_below_drewN | apply below_drew1 | refine below_set ?_ GE101.out | refine below_set ?_ GE103.out) | exact HB.out)⟩⟩
            case rest =>
              clear HC7
              try clear c1
              try clear p1
              try clear q1
              try clear hx1
              try clear c2
              try clear p2
              try clear c4
              try clear c4b0
              try clear c5
              try clear c5b0
              try clear c6
              try clear c6b0
              try clear c9
              try clear p10
              try clear q10
              try clear hx10
              try clear c11
              try clear c11b0
              try clear c12
              try clear c15
              try clear hcz10_0
              try clear hcz10_1
              try clear hcz13_0
              try clear hcz13_1
              try clear hcz14_0
              try clear hcz14_1
              try clear hcz16_0
              try clear hcz16_1
              try clear hcz17_0
              try clear hcz17_1
              try clear hcz3_0
              try clear hcz3_1
              try clear hfz10_0
              try clear hfz10_1
              try clear hfz13_0
              try clear hfz13_1
              try clear hfz14_0
              try clear hfz14_1
              try clear hfz16_0
              try clear hfz16_1
              try clear hfz17_0
              try clear hfz17_1
              try clear hfz3_0
              try clear hfz3_1
              try clear hx102_0
              try clear hx102_1
              try clear p102
              try clear p2
              try clear q102
              obtain ⟨kq, x14_6, rfl, HA, HJ6, BK101, BK103, HB⟩ := hcut
              cases kq with
              | zero => exact absurd HA.out (by simp [index_Right.j1])
              | succ kj6 =>
                have H := HA.out
                clear HA
                simp only [index_Right.j1] at H
                by_cases c18 : x14_6 = true
                · subst c18
                  have H1 : (some false) = some r := by rw [if_pos rfl] at H; exact H
                  clear H
                  have H := H1
                  clear H1
                  obtain rfl := Option.some.inj H
                  go_wp2
                  go_ret
                  exact ⟨by first | rfl | (simp [errW_none, errW_some] <;> rfl) | (simp [*, errW_none, errW_some] <;> rfl), by repeat (first | (with_reducible first | exact HB.out | apply below_alloc | apply pw_below_drewN | apply below_drew1 | refine below_set ?_ GE101.out | refine below_set ?_ GE103.out) | exact HB.out)⟩
                · replace c18 := Bool.eq_false_iff.mpr c18
                  subst c18
                  have H1 : (if ((rd_T53 l0 x9_1).f1) < x102001_1 then (some false) else (if ((rd_T53 l0 x9_1).f1) > 131072 then (some false) else (if x9_1 = 0 then (if ((rd_T53 l0 x9_1).f1) > 0 then (some false) else (index_Right.l0 kj6 l0 l0 (l0.length : Int) (wrap64 (x9_1 + 1)) ((rd_T53 l0 x9_1).f0) ((rd_T53 l0 x9_1).f1))) else (index_Right.l0 kj6 l0 l0 (l0.length : Int) (wrap64 (x9_1 + 1)) ((rd_T53 l0 x9_1).f0) ((rd_T53 l0 x9_1).f1))))) = some r := by rw [if_neg (show ¬ (false = true) by decide)] at H; exact H
                  clear H
                  have H := H1
                  clear H1
                  by_cases c19 : ((rd_T53 l0 x9_1).f1) < x102001_1
                  · rw [if_pos c19] at H
                    have c19b0 : decide (((rd_T53 l0 x9_1).f1) < x102001_1) = true := decide_eq_true c19
                    clear c19
                    obtain rfl := Option.some.inj H
                    have hnb20 := NB103_101.out
                    have hnc20 := NB101_103.out
                    have hcz21_0 : wc.cell? ⟨gb103, 0, none⟩ = some (.int .i64 ((rd_T53 l0 x9_1).f0)) := (blk_cell BK103.out 0).trans rfl
                    have hcz21_1 : wc.cell? ⟨gb103, 1, none⟩ = some (.int .i64 ((rd_T53 l0 x9_1).f1)) := (blk_cell BK103.out 1).trans rfl
                    have hfz21_0 := blk_frozen BK103.out 0
                    have hfz21_1 := blk_frozen BK103.out 1
                    have hcz22_0 : wc.cell? ⟨gb101, 0, none⟩ = some (.int .i64 x102000_1) := (blk_cell BK101.out 0).trans rfl
                    have hcz22_1 : wc.cell? ⟨gb101, 1, none⟩ = some (.int .i64 x102001_1) := (blk_cell BK101.out 1).trans rfl
                    have hfz22_0 := blk_frozen BK101.out 0
                    have hfz22_1 := blk_frozen BK101.out 1
                    go_wp2
                    go_ret
                    exact ⟨by first | rfl | (simp [errW_none, errW_some] <;> rfl) | (simp [*, errW_none, errW_some] <;> rfl), by repeat (first | (with_reducible first | exact HB.out | apply below_alloc | apply pw_below_drewN | apply below_drew1 | refine below_set ?_ GE101.out | refine below_set ?_ GE103.out) | exact HB.out)⟩
                  · rw [if_neg c19] at H
                    have c19b0 : decide (((rd_T53 l0 x9_1).f1) < x102001_1) = false := decide_eq_false c19
                    clear c19
                    by_cases c23 : ((rd_T53 l0 x9_1).f1) > 131072
                    · rw [if_pos c23] at H
                      have c23b0 : decide (131072 < ((rd_T53 l0 x9_1).f1)) = true := decide_eq_true c23
                      clear c23
                      obtain rfl := Option.some.inj H
                      have hnb24 := NB103_101.out
                      have hnc24 := NB101_103.out
                      have hcz25_0 : wc.cell? ⟨gb103, 0, none⟩ = some (.int .i64 ((rd_T53 l0 x9_1).f0)) := (blk_cell BK103.out 0).trans rfl
                      have hcz25_1 : wc.cell? ⟨gb103, 1, none⟩ = some (.int .i64 ((rd_T53 l0 x9_1).f1)) := (blk_cell BK103.out 1).trans rfl
                      have hfz25_0 := blk_frozen BK103.out 0
                      have hfz25_1 := blk_frozen BK103.out 1
                      have hcz26_0 : wc.cell? ⟨gb101, 0, none⟩ = some (.int .i64 x102000_1) := (blk_cell BK101.out 0).trans rfl
                      have hcz26_1 : wc.cell? ⟨gb101, 1, none⟩ = some (.int .i64 x102001_1) := (blk_cell BK101.out 1).trans rfl
                      have hfz26_0 := blk_frozen BK101.out 0
                      have hfz26_1 := blk_frozen BK101.out 1
                      go_wp2
                      go_ret
                      exact ⟨by first | rfl | (simp [errW_none, errW_some] <;> rfl) | (simp [*, errW_none, errW_some] <;> rfl), by repeat (first | (with_reducible first | exact HB.out | apply below_alloc | apply pw_below_drewN | apply below_drew1 | refine below_set ?_ GE101.out | refine below_set ?_ GE103.out) | exact HB.out)⟩
                    · rw [if_neg c23] at H
                      have c23b0 : decide (131072 < ((rd_T53 l0 x9_1).f1)) = false := decide_eq_false c23
                      clear c23
                      by_cases c27 : x9_1 = 0
                      · rw [if_pos c27] at H
                        have c27b0 : (x9_1 == 0) = true := beq_iff_eq.mpr c27
                        have c27b1 : (x9_1 != 0) = false := bne_eq_false_iff_eq.mpr c27
                        clear c27
                        by_cases c28 : ((rd_T53 l0 x9_1).f1) > 0
                        · rw [if_pos c28] at H
                          have c28b0 : decide (0 < ((rd_T53 l0 x9_1).f1)) = true := decide_eq_true c28
                          clear c28
                          obtain rfl := Option.some.inj H
                          have hnb29 := NB103_101.out
                          have hnc29 := NB101_103.out
                          have hcz30_0 : wc.cell? ⟨gb103, 0, none⟩ = some (.int .i64 ((rd_T53 l0 x9_1).f0)) := (blk_cell BK103.out 0).trans rfl
                          have hcz30_1 : wc.cell? ⟨gb103, 1, none⟩ = some (.int .i64 ((rd_T53 l0 x9_1).f1)) := (blk_cell BK103.out 1).trans rfl
                          have hfz30_0 := blk_frozen BK103.out 0
                          have hfz30_1 := blk_frozen BK103.out 1
                          have hcz31_0 : wc.cell? ⟨gb101, 0, none⟩ = some (.int .i64 x102000_1) := (blk_cell BK101.out 0).trans rfl
                          have hcz31_1 : wc.cell? ⟨gb101, 1, none⟩ = some (.int .i64 x102001_1) := (blk_cell BK101.out 1).trans rfl
                          have hfz31_0 := blk_frozen BK101.out 0
                          have hfz31_1 := blk_frozen BK101.out 1
                          go_wp2
                          go_ret
                          exact ⟨by first | rfl | (simp [errW_none, errW_some] <;> rfl) | (simp [*, errW_none, errW_some] <;> rfl), by repeat (first | (with_reducible first | exact HB.out | apply below_alloc | apply pw_below_drewN | apply below_drew1 | refine below_set ?_ GE101.out | refine below_set ?_ GE103.out) | exact HB.out)⟩
                        · rw [if_neg c28] at H
                          have c28b0 : decide (0 < ((rd_T53 l0 x9_1).f1)) = false := decide_eq_false c28
                          clear c28
                          have H' := Aside0.mk H
                          clear H
                          have hnb32 := NB103_101.out
                          have hnc32 := NB101_103.out
                          have hcz33_0 : wc.cell? ⟨gb103, 0, none⟩ = some (.int .i64 ((rd_T53 l0 x9_1).f0)) := (blk_cell BK103.out 0).trans rfl
                          have hcz33_1 : wc.cell? ⟨gb103, 1, none⟩ = some (.int .i64 ((rd_T53 l0 x9_1).f1)) := (blk_cell BK103.out 1).trans rfl
                          have hfz33_0 := blk_frozen BK103.out 0
                          have hfz33_1 := blk_frozen BK103.out 1
                          have hcz34_0 : wc.cell? ⟨gb101, 0, none⟩ = some (.int .i64 x102000_1) := (blk_cell BK101.out 0).trans rfl
                          have hcz34_1 : wc.cell? ⟨gb101, 1, none⟩ = some (.int .i64 x102001_1) := (blk_cell BK101.out 1).trans rfl
                          have hfz34_0 := blk_frozen BK101.out 0
                          have hfz34_1 := blk_frozen BK101.out 1
                          go_wp2
                          go_roundg kj6
                          case measure => have := HK1.out; have := HJ6.out; omega
                          case rel => exact ⟨(wrap64 (x9_1 + 1)), (((rd_T53 l0 x9_1).f0)), (((rd_T53 l0 x9_1).f1)), (by first | rfl | (simp; done) | (simp [*]; done)), H', ⟨by have := HK1.out; have := HJ6.out; omega⟩, ⟨by (with_reducible repeat (first | refine blk_drewN ?_ _ | refine blk_drew ?_ | refine blk_alloc ?_ _)); refine blk_put (cs := #[.int .i64 ((rd_T53 l0 x9_1).f0), .int .i64 x102001_1]) ?_ 1 _ rfl; (with_reducible repeat (first | refine blk_drewN ?_ _ | refine blk_drew ?_ | refine blk_alloc ?_ _)); refine blk_put (cs := #[.int .i64 x102000_1, .int .i64 x102001_1]) ?_ 0 _ rfl; (with_reducible repeat (first | refine blk_drewN ?_ _ | refine blk_drew ?_ | refine blk_alloc ?_ _)); exact BK101.out⟩, ⟨by repeat (first | (with_reducible first | exact HB.out | apply below_alloc | apply pw_below_drewN | apply below_drew1 | refine below_set ?_ GE101.out | refine below_set ?_ GE103.out) | exact HB.out)⟩⟩
                      · rw [if_neg c27] at H
                        have c27b0 : (x9_1 == 0) = false := beq_eq_false_iff_ne.mpr c27
                        have c27b1 : (x9_1 != 0) = true := bne_iff_ne.mpr c27
                        have H' := Aside0.mk H
                        clear H
                        have hnb35 := NB103_101.out
                        have hnc35 := NB101_103.out
                        have hcz36_0 : wc.cell? ⟨gb103, 0, none⟩ = some (.int .i64 ((rd_T53 l0 x9_1).f0)) := (blk_cell BK103.out 0).trans rfl
                        have hcz36_1 : wc.cell? ⟨gb103, 1, none⟩ = some (.int .i64 ((rd_T53 l0 x9_1).f1)) := (blk_cell BK103.out 1).trans rfl
                        have hfz36_0 := blk_frozen BK103.out 0
                        have hfz36_1 := blk_frozen BK103.out 1
                        have hcz37_0 : wc.cell? ⟨gb101, 0, none⟩ = some (.int .i64 x102000_1) := (blk_cell BK101.out 0).trans rfl
                        have hcz37_1 : wc.cell? ⟨gb101, 1, none⟩ = some (.int .i64 x102001_1) := (blk_cell BK101.out 1).trans rfl
                        have hfz37_0 := blk_frozen BK101.out 0
                        have hfz37_1 := blk_frozen BK101.out 1
                        go_wp2
                        go_roundg kj6
                        case measure => have := HK1.out; have := HJ6.out; omega
                        case rel => exact ⟨(wrap64 (x9_1 + 1)), (((rd_T53 l0 x9_1).f0)), (((rd_T53 l0 x9_1).f1)), (by first | rfl | (simp; done) | (simp [*]; done)), H', ⟨by have := HK1.out; have := HJ6.out; omega⟩, ⟨by (with_reducible repeat (first | refine blk_drewN ?_ _ | refine blk_drew ?_ | refine blk_alloc ?_ _)); refine blk_put (cs := #[.int .i64 ((rd_T53 l0 x9_1).f0), .int .i64 x102001_1]) ?_ 1 _ rfl; (with_reducible repeat (first | refine blk_drewN ?_ _ | refine blk_drew ?_ | refine blk_alloc ?_ _)); refine blk_put (cs := #[.int .i64 x102000_1, .int .i64 x102001_1]) ?_ 0 _ rfl; (with_reducible repeat (first | refine blk_drewN ?_ _ | refine blk_drew ?_ | refine blk_alloc ?_ _)); exact BK101.out⟩, ⟨by repeat (first | (with_reducible first | exact HB.out | apply below_alloc | apply pw_below_drewN | apply below_drew1 | refine below_set ?_ GE101.out | refine below_set ?_ GE103.out) | exact HB.out)⟩⟩
          · rw [if_neg c6] at H
            exact absurd H (by simp)
        · rw [if_neg c5] at H
          exact absurd H (by simp)
      · rw [if_neg c4] at H
        have c4b0 : decide (x9_1 < (l0.length : Int)) = false := decide_eq_false c4
        clear c4
        obtain rfl := Option.some.inj H
        go_wp2
        go_ret
        exact ⟨by first | rfl | (simp [errW_none, errW_some] <;> rfl) | (simp [*, errW_none, errW_some] <;> rfl), by repeat (first | (with_reducible first | exact HB.out | apply below_alloc | apply pw_below_drewN | apply below_drew1 | refine below_set ?_ GE101.out) | exact HB.out)⟩

-- NOT PRINTED: function 44 (octet_Writer_Num)

/-! ### crc_Table_More: function 60 -/
def crc_Table_More.f (l0 : List Int) (a1 : Int) (a2 : ByteArray) : Option Int :=
  if l0 = CrcX.crcTab then (if 0 ≤ a1 ∧ a1 < 4294967296 ∧ a2.size ≤ 140737488351232 then some ((CrcLem.sumN a1.toNat a2.data.toList : Nat) : Int) else none) else none
theorem crc_Table_More.calls (A0 : Option Addr) (c0 : Nat) (l0 : List Int) (a1 : Int) (a2 : ByteArray) (r : Int) (w : World) (hr0 : Kd.C (Kd.int .u32) w A0 l0.length l0) (hc0 : l0.length ≤ c0) (h : crc_Table_More.f l0 a1 a2 = some r) :
    Calls Try.prog 60 #[.pointer A0, .int .u32 a1, .string a2] w fun e w' => e = .returned (.int .u32 r) ∧ Drawn0 w w' := by
  unfold crc_Table_More.f at h
  split at h
  · rename_i e
    subst e
    split at h
    · rename_i hb
      obtain rfl := Option.some.inj h
      obtain ⟨a, rfl, hT⟩ := CrcX.tab_at hr0
      obtain ⟨n, rfl⟩ := Int.eq_ofNat_of_zero_le hb.1
      exact (CrcW.more_at a n a2 w (by omega) hb.2.2 hT).mono fun _ _ h => ⟨h.1, ⟨h.2⟩⟩
    · cases h
  · cases h
def crc_Table_More_nil.f (_ : Unit) (a1 : Int) (a2 : ByteArray) : Option Int := some 0
theorem crc_Table_More_nil.calls (a0 : Unit) (a1 : Int) (a2 : ByteArray) (r : Int) (w : World) (h : crc_Table_More_nil.f a0 a1 a2 = some r) :
    Calls Try.prog 60 #[.pointer none, .int .u32 a1, .string a2] w fun e w' => e = .returned (.int .u32 r) ∧ Drawn0 w w' := by
  obtain rfl := Option.some.inj h
  exact (CrcW.more_nil a1 a2 w).mono fun _ _ h => ⟨h.1, by rw [← h.2]; exact Drawn0.refl w⟩

/-! ### crc_Table_Sum: function 45 -/
def crc_Table_Sum.f (l0 : List Int) (a1 : ByteArray) : Option Int :=
  if l0 = CrcX.crcTab then (if a1.size ≤ 140737488351232 then some ((CrcLem.sumN 0 a1.data.toList : Nat) : Int) else none) else none
theorem crc_Table_Sum.calls (A0 : Option Addr) (c0 : Nat) (l0 : List Int) (a1 : ByteArray) (r : Int) (w : World) (hr0 : Kd.C (Kd.int .u32) w A0 l0.length l0) (hc0 : l0.length ≤ c0) (h : crc_Table_Sum.f l0 a1 = some r) :
    Calls Try.prog 45 #[.pointer A0, .string a1] w fun e w' => e = .returned (.int .u32 r) ∧ Drawn0 w w' := by
  unfold crc_Table_Sum.f at h
  split at h
  · rename_i e
    subst e
    split at h
    · rename_i hb
      obtain rfl := Option.some.inj h
      obtain ⟨a, rfl, hT⟩ := CrcX.tab_at hr0
      exact (CrcW.sum_at a a1 w hb hT).mono fun _ _ h => ⟨h.1, ⟨h.2⟩⟩
    · cases h
  · cases h
def crc_Table_Sum_nil.f (_ : Unit) (a1 : ByteArray) : Option Int := some 0
theorem crc_Table_Sum_nil.calls (a0 : Unit) (a1 : ByteArray) (r : Int) (w : World) (h : crc_Table_Sum_nil.f a0 a1 = some r) :
    Calls Try.prog 45 #[.pointer none, .string a1] w fun e w' => e = .returned (.int .u32 r) ∧ Drawn0 w w' := by
  obtain rfl := Option.some.inj h
  exact (CrcW.sum_nil a1 w).mono fun _ _ h => ⟨h.1, by rw [← h.2]; exact Drawn0.refl w⟩

-- NOT PRINTED: function 56 (strings_Builder_String)

-- NOT PRINTED: function 46 (octet_Writer_String)

/-! ### index_Put: function 21 -/
section
open OctW
def slotL (x : S53) : List UInt8 := numL x.f0 4 ++ numL x.f1 4
def slotsL (l : List S53) : List UInt8 := l.flatMap slotL
def slotsFit (l : List S53) : Bool := l.all fun x => decide (0 ≤ x.f0 ∧ x.f0 < 4611686018427387904 ∧ 0 ≤ x.f1 ∧ x.f1 < 4611686018427387904)
def putI (l : List S53) : List UInt8 := slotsL l ++ numL ((CrcLem.sumN 0 (slotsL l) : Nat) : Int) 4
def index_Put.f (k : Nat) (l0 : List Int) (l1 : List S53) : Option (ByteArray × Int) :=
  if l0 = CrcX.crcTab then (index_Right.f k l1).bind fun t => (if t = true then (if l1.length ≤ 1000 ∧ slotsFit l1 = true then some (⟨(putI l1).toArray⟩, 0) else none) else some (⟨#[]⟩, 1)) else none
theorem index_Put.mono : ∀ a0 a1 k, LeO (index_Put.f k a0 a1) (index_Put.f (k + 1) a0 a1) := by
  intro a0 a1 k r h
  unfold index_Put.f at h ⊢
  split at h
  · rename_i he
    rw [if_pos he]
    obtain ⟨t, h1, h2⟩ := Option.bind_eq_some_iff.1 h
    rw [index_Right.mono _ _ _ h1]
    exact h2
  · cases h
theorem numL_len (n k : Int) : (numL n k).length ≤ k.toNat := by
  unfold numL; split
  · rw [beN_length]; exact Nat.le_refl _
  · exact Nat.zero_le _
theorem slotsL_len (l : List S53) : (slotsL l).length ≤ 8 * l.length := by
  induction l with
  | nil => exact Nat.zero_le _
  | cons x l ih =>
    show (slotL x ++ slotsL l).length ≤ _
    have h1 := numL_len x.f0 4
    have h2 := numL_len x.f1 4
    rw [List.length_append, List.length_cons]
    unfold slotL
    rw [List.length_append]
    simp only [show ((4 : Int)).toNat = 4 from rfl] at h1 h2
    omega
theorem slotsL_snoc (l : List S53) (i : Nat) (h : i < l.length) : slotsL (l.take (i + 1)) = slotsL (l.take i) ++ slotL l[i] := by
  unfold slotsL; rw [List.take_succ_eq_append_getElem h, List.flatMap_append]; simp
theorem slot_cell {w w' : World} {A0 : Option Addr} {l : List S53} (h : Kd.C k53 w A0 l.length l) (hb : Below w.heap.size w w') (i : Nat) (hi : i < l.length) : ∃ ad, A0 = some ad ∧ w'.cell? (ad.add (i * 2)) = some (.int .i64 l[i].f0) ∧ w'.cell? ⟨(ad.add (i * 2)).block, (ad.add (i * 2)).off + 1, none⟩ = some (.int .i64 l[i].f1) := by
  obtain ⟨a, ha, hc, hd⟩ := at_T53 (Kd.C_below h hb) (i : Int) (by omega) (by omega)
  have e : rd_T53 l (i : Int) = l[i] := by
    unfold rd_T53; rw [Int.toNat_natCast, List.getD_eq_getElem?_getD, List.getElem?_eq_getElem hi]; rfl
  rw [Int.toNat_natCast, e] at hc hd
  exact ⟨a, ha, hc, hd⟩
set_option maxHeartbeats 2000000 in
set_option maxRecDepth 100000 in
theorem index_Put.calls (k : Nat) (A0 : Option Addr) (c0 : Nat) (l0 : List Int) (A1 : Option Addr) (c1 : Nat) (l1 : List S53) (r1 : ByteArray) (r2 : Int) (w : World) (hr0 : Kd.C (Kd.int .u32) w A0 l0.length l0) (hc0 : l0.length ≤ c0) (hr1 : Kd.C k53 w A1 l1.length l1) (hc1 : l1.length ≤ c1) (h : index_Put.f k l0 l1 = some (r1, r2)) :
    Calls Try.prog 21 #[.pointer A0, .slice A1 l1.length c1] w fun e w' => e = .returned (.tuple #[.string r1, .int .i64 r2]) ∧ Below w.heap.size w w' := by
  have hu53 := Try.underlying53
  unfold index_Put.f at h
  split at h
  · rename_i he
    subst he
    obtain ⟨t, hT, h⟩ := Option.bind_eq_some_iff.1 h
    obtain ⟨a, rfl, hTab⟩ := CrcX.tab_at hr0
    clear hr0
    have HR1 := Aside0.mk hr1
    have HC1 := Aside0.mk hc1
    have HT := Aside0.mk hT
    have HTab := Aside0.mk hTab
    clear hT hTab hr1
    by_cases ht : t = true
    · subst ht
      rw [if_pos rfl] at h
      split at h
      · rename_i hfit
        obtain ⟨hlen, hfit⟩ := hfit
        simp only [Option.some.injEq, Prod.mk.injEq] at h
        obtain ⟨rfl, rfl⟩ := h
        have HF := Aside0.mk (List.all_eq_true.1 hfit)
        clear hfit
        go_enter Try.func21, Try.ntmps21
        go_wp2_with (go_at_call 23; refine (index_Right.calls k A1 c1 l1 true _ HR1.out HC1.out HT.out).mono ?_; rintro e w1 ⟨rfl, hb1⟩; have hw0 := wr_new w.heap.size w1 hb1.size; have hg0 := below_alloc hb1 (.cells #[.pointer none, .slice none 0 0] 76))
        have HG := Lib.hid (rfl : w1.heap.size = w1.heap.size)
        have hbw : w.heap.size ≤ w1.heap.size := hb1.size
        generalize hbq : w1.heap.size = b at hw0 hbw ⊢
        clear HG
        go_loopw [20] (fun v wr => ∃ i : Nat, i ≤ l1.length ∧ v = .int .i64 i ∧ Aside0 (Wr w.heap.size b (slotsL (l1.take i)) wr) ∧ Aside0 (Below w.heap.size w wr)) (fun v _ => l1.length - (intOf v).toNat)
        case atStart => exact ⟨0, Nat.zero_le _, rfl, ⟨hw0⟩, ⟨hg0⟩⟩
        case round =>
          clear hw0 hg0 hb1 hbq
          obtain ⟨i, hi, rfl, HW, HB⟩ := hrel
          by_cases hlt : i < l1.length
          · have hc : decide ((i : Int) < (l1.length : Int)) = true := decide_eq_true (by omega)
            have ew : wrap64 ((i : Int) + 1) = ((i + 1 : Nat) : Int) := by unfold wrap64; omega
            obtain ⟨ad, rfl, hx0, hx1⟩ := slot_cell HR1.out HB.out i hlt
            have q1 : (0 ≤ (i : Int)) = True := eq_true (by omega)
            have q2 : ((i : Int) < (l1.length : Int)) = True := eq_true (by omega)
            have hfit := HF.out l1[i] (List.getElem_mem hlt)
            have hsn := slotsL_snoc l1 i hlt
            have hsl := slotsL_len (l1.take i)
            rw [List.length_take] at hsl
            have hxe : slotL l1[i] = numL l1[i].f0 4 ++ numL l1[i].f1 4 := rfl
            simp only [decide_eq_true_eq] at hfit
            generalize l1[i].f0 = x0 at hx0 hfit hxe
            generalize l1[i].f1 = x1 at hx1 hfit hxe
            rw [hxe] at hsn
            clear hxe
            obtain ⟨n0, rfl⟩ := Int.eq_ofNat_of_zero_le hfit.1
            obtain ⟨n1, rfl⟩ := Int.eq_ofNat_of_zero_le hfit.2.2.1
            have hn0 : n0 < 4611686018427387904 := by omega
            have hn1 : n1 < 4611686018427387904 := by omega
            clear hfit
            have HSN := Aside0.mk hsn
            clear hsn
            generalize hL : slotsL (l1.take i) = L at HW hsl HSN
            clear hL
            have hlL : L.length ≤ 8000 := by omega
            clear hsl
            go_upto_region 6 with (fail)
            go_cut [8] (fun v8 wc => ∃ g8 : Nat, v8 = .pointer (some ⟨g8, 0, none⟩) ∧ Aside0 (wc.heap[g8]? = some (.cells #[.int .i64 n0, .int .i64 n1] 53 (0, 0))) ∧ Aside0 (Wr w.heap.size b L wc) ∧ Aside0 (Below w.heap.size w wc))
            case first =>
              go_wp2_with ((with_reducible refine gate_dst (N := 8) rfl ?_); refine box_event ?hg (N := 8) ?hd (cs := #[.int .i64 0, .int .i64 0]) (t := 53) ?hr ?_; (case hd => rfl); (case hg => rfl); (case hr => first | (go_simp; done) | (go_simp; rfl)); intro g8 hg w8 hbox hb; have BK := Aside0.mk hbox; have HW8 := Aside0.mk (HW.out.below hb); have HB8 := Aside0.mk (below_step HB.out hb); have GE := Aside0.mk (by rw [hg]; exact HB.out.size : w.heap.size ≤ g8); clear hb hbox hg; have hcz0 : w8.cell? ⟨g8, 0, none⟩ = some (.int .i64 0) := (blk_cell BK.out 0).trans rfl; have hcz1 : w8.cell? ⟨g8, 1, none⟩ = some (.int .i64 0) := (blk_cell BK.out 1).trans rfl; have hfz0 := blk_frozen BK.out 0; have hfz1 := blk_frozen BK.out 1)
              go_meet
              case rel =>
                refine ⟨g8, rfl, ⟨?_⟩, ⟨HW8.out.keep (((KeepBut.refl _ g8 none).set_ 0 _).set_ 1 _) BK.out (by decide) (by decide)⟩, ⟨below_set (below_set HB8.out GE.out) GE.out⟩⟩
                refine blk_put (cs := #[.int .i64 n0, .int .i64 0]) ?_ 1 _ rfl
                exact blk_put (cs := #[.int .i64 0, .int .i64 0]) BK.out 0 _ rfl
            case rest =>
              clear HW HB hx0 hx1
              obtain ⟨g8, rfl, BK, HW, HB⟩ := hcut
              have hgb := HW.out.ne BK.out (by decide)
              have hcz0 := (blk_cell BK.out 0).trans rfl
              go_upto_region 8 with (first
                | (go_at_call 44; refine (num_some w.heap.size b n0 4 L _ (by decide) (by decide) (by omega) HW.out (by omega) HB.out.size).mono ?_; rintro e w2 ⟨rfl, hW2, hb2, hk2⟩; have HW2 := Aside0.mk hW2; have HB2 := Aside0.mk (HB.out.trans hb2); have BK2 := Aside0.mk (Kp.cells hk2 BK.out hgb (by decide)); clear hW2 hb2 hk2; have hcz1 : w2.cell? ⟨g8, 1, none⟩ = some (.int .i64 n1) := (blk_cell BK2.out 1).trans rfl))
              go_wp2_with (first
                | (go_at_call 44; refine (num_some w.heap.size b n1 4 _ _ (by decide) (by decide) (by omega) HW2.out (by have := numL_len n0 4; rw [List.length_append]; simp only [show ((4 : Int)).toNat = 4 from rfl] at this; show L.length + (numL n0 4).length + 4 ≤ _; omega) HB2.out.size).mono ?_; rintro e w3 ⟨rfl, hW3, hb3, hk3⟩))
              go_roundw
              case rel => exact ⟨i + 1, by omega, by first | rw [ew] | go_num, ⟨by rw [HSN.out, ← List.append_assoc]; exact hW3⟩, ⟨HB2.out.trans hb3⟩⟩
              case measure => simp only [intOf]; (try rw [ew]); omega
          · obtain rfl : i = l1.length := by omega
            have hsl := slotsL_len l1
            have hput : putI l1 = slotsL l1 ++ numL ((CrcLem.sumN 0 (slotsL l1) : Nat) : Int) 4 := rfl
            have HW' := HW.out
            rw [List.take_length] at HW'
            clear HW
            generalize slotsL l1 = L at HW' hsl hput
            have hsum : CrcLem.sumN 0 L < 4294967296 := CrcLem.sumN_lt _ _ (by decide)
            go_wp2_with (first
              | (go_at_call 46; refine (string_some w.heap.size b L _ HW' HB.out.size).mono ?_; rintro e w2 ⟨rfl, hW2, hb2, hk2⟩; have HB2 := Aside0.mk (HB.out.trans hb2))
              | (go_at_call 45; refine (CrcW.sum_at a _ _ (by show L.toArray.size ≤ _; simp; omega) (fun j hj => (HB2.out.cell (World.block_lt_of_cell? w _ (HTab.out j hj))).trans (HTab.out j hj))).mono ?_; rintro e w3 ⟨rfl, hd3⟩))
            obtain ⟨n3, rfl⟩ := hd3
            have hW3 := hW2.below (pw_below_drewN (Below.refl _ _) n3)
            have HB3 := pw_below_drewN HB2.out n3
            refine (num_some w.heap.size b (CrcLem.sumN 0 L) 4 L _ (by decide) (by decide) (by omega) hW3 (by omega) HB3.size).mono ?_
            rintro e w4 ⟨rfl, hW4, hb4, hk4⟩
            have HB4 := HB3.trans hb4
            go_wp2_with (go_at_call 46; refine (string_some w.heap.size b _ _ hW4 HB4.size).mono ?_; rintro e w5 ⟨rfl, hW5, hb5, hk5⟩)
            go_ret2
            refine ⟨?_, HB4.trans hb5⟩
            rw [hput]; rfl
      · cases h
    · replace ht := Bool.eq_false_iff.mpr ht
      subst ht
      rw [if_neg (by decide)] at h
      simp only [Option.some.injEq, Prod.mk.injEq] at h
      obtain ⟨rfl, rfl⟩ := h
      go_enter Try.func21, Try.ntmps21
      go_wp2_with (go_at_call 23; refine (index_Right.calls k A1 c1 l1 false _ HR1.out HC1.out HT.out).mono ?_; rintro e w1 ⟨rfl, hb1⟩)
      go_ret2
      exact ⟨rfl, hb1⟩
  · cases h
def index_Put_nil.f (k : Nat) (_ : Unit) (l1 : List S53) : Option (ByteArray × Int) := some (⟨#[]⟩, 1)
theorem index_Put_nil.mono : ∀ a0 a1 k, LeO (index_Put_nil.f k a0 a1) (index_Put_nil.f (k + 1) a0 a1) := fun _ _ _ _ h => h
set_option maxHeartbeats 1000000 in
set_option maxRecDepth 100000 in
theorem index_Put_nil.calls (k : Nat) (a0 : Unit) (A1 : Option Addr) (c1 : Nat) (l1 : List S53) (r1 : ByteArray) (r2 : Int) (w : World) (hr1 : Kd.C k53 w A1 l1.length l1) (hc1 : l1.length ≤ c1) (h : index_Put_nil.f k a0 l1 = some (r1, r2)) :
    Calls Try.prog 21 #[.pointer none, .slice A1 l1.length c1] w fun e w' => e = .returned (.tuple #[.string r1, .int .i64 r2]) ∧ Below w.heap.size w w' := by
  simp only [index_Put_nil.f, Option.some.injEq, Prod.mk.injEq] at h
  obtain ⟨rfl, rfl⟩ := h
  go_enter Try.func21, Try.ntmps21
  go_wp2_with fail
  go_ret2
  exact ⟨rfl, Below.refl _ _⟩
end

/-! ### index_Size: function 25 -/
def index_Size.f (a0 : Int) : Option (Int) := if a0 < 0 then (some 0) else (if a0 > 262144 then (some 0) else (some (wrap64 ((wrap64 (a0 * 8)) + 4))))
set_option maxHeartbeats 8000000 in
set_option maxRecDepth 100000 in
theorem index_Size.calls (a0 : Int) (r : Int) (w : World) (h : index_Size.f a0 = some r) :
    Calls Try.prog 25 #[.int .i64 a0] w fun e w' => e = .returned (.int .i64 r) ∧ Drawn0 w w' := by
  have H : (if a0 < 0 then (some 0) else (if a0 > 262144 then (some 0) else (some (wrap64 ((wrap64 (a0 * 8)) + 4))))) = some r := h
  clear h
  by_cases c2 : a0 < 0
  · rw [if_pos c2] at H
    have c2b0 : decide (a0 < 0) = true := decide_eq_true c2
    clear c2
    obtain rfl := Option.some.inj H
    go_enter Try.func25, Try.ntmps25
    go_wp2
    go_ret
    exact ⟨by first | rfl | (simp; done) | (simp [*]; done), by repeat (first | exact Drawn0.refl _ | apply Drawn0.step)⟩
  · rw [if_neg c2] at H
    have c2b0 : decide (a0 < 0) = false := decide_eq_false c2
    clear c2
    by_cases c3 : a0 > 262144
    · rw [if_pos c3] at H
      have c3b0 : decide (262144 < a0) = true := decide_eq_true c3
      clear c3
      obtain rfl := Option.some.inj H
      go_enter Try.func25, Try.ntmps25
      go_wp2
      go_ret
      exact ⟨by first | rfl | (simp; done) | (simp [*]; done), by repeat (first | exact Drawn0.refl _ | apply Drawn0.step)⟩
    · rw [if_neg c3] at H
      have c3b0 : decide (262144 < a0) = false := decide_eq_false c3
      clear c3
      obtain rfl := Option.some.inj H
      go_enter Try.func25, Try.ntmps25
      go_wp2
      go_ret
      exact ⟨by first | rfl | (simp; done) | (simp [*]; done), by repeat (first | exact Drawn0.refl _ | apply Drawn0.step)⟩

/-- A state of type 95 at block g of W; what its slices lead to came in by w0. -/
def IsS95 (w0 W : World) (g : Nat) (f0 : ByteArray) (f1 : Int) (f2 : Bool) : Prop := W.heap[g]? = some (.cells #[.string f0, .int .i64 f1, .bool f2] 95 (0, 0)) ∧ w0.heap.size ≤ g
theorem IsS95.grown {w0 W : World} {g : Nat} {f0 : ByteArray} {f1 : Int} {f2 : Bool} {W1 : World} {row : Option Nat} (h : IsS95 w0 W g f0 f1 f2) (hw : W.grownBy W1 row) (hne : some g ≠ row) : IsS95 w0 W1 g f0 f1 f2 := by
  obtain ⟨hb, hg⟩ := h
  exact ⟨blk_grown hb hw hne, hg⟩
theorem IsS95.own_neN {w0 W : World} {g : Nat} {f0 : ByteArray} {f1 : Int} {f2 : Bool} {α : Type} {d : Kd α} {e : Nat} {base : Nat} {ok : Nat → Prop} {v : Value} {xs : List α} (h : IsS95 w0 W g f0 f1 f2) (ho : Kd.N d e W base ok v xs) (ht : e ≠ 95) : some g ≠ v.ownBlock := by
  obtain ⟨hb, hg⟩ := h
  exact Kd.N_ne ho hb ht
theorem IsS95.fresh {w0 W : World} {g : Nat} {f0 : ByteArray} {f1 : Int} {f2 : Bool} (h : IsS95 w0 W g f0 f1 f2) : ∀ k, W.heap.size ≤ k → k ≠ g := by
  obtain ⟨hb, hg⟩ := h
  exact Kd.freshB hb
theorem IsS95.kept {w0 W : World} {g : Nat} {f0 : ByteArray} {f1 : Int} {f2 : Bool} {W1 : World} {S : Nat → Prop} (h : IsS95 w0 W g f0 f1 f2) (hk : Kept W W1 S) (hne : ¬ S g) : IsS95 w0 W1 g f0 f1 f2 := by
  obtain ⟨hb, hg⟩ := h
  exact ⟨blk_kept hb hk hne, hg⟩
theorem IsS95.below {w0 W : World} {g : Nat} {f0 : ByteArray} {f1 : Int} {f2 : Bool} {W1 : World} (h : IsS95 w0 W g f0 f1 f2) (hw : Below W.heap.size W W1) : IsS95 w0 W1 g f0 f1 f2 := h.grown (grown_of_below hw none) (by simp)
theorem IsS95.alloc {w0 W : World} {g : Nat} {f0 : ByteArray} {f1 : Int} {f2 : Bool} (h : IsS95 w0 W g f0 f1 f2) (o : Obj) : IsS95 w0 (W.alloc o) g f0 f1 f2 := h.below (below_alloc (Below.refl _ _) o)
theorem IsS95.drewN {w0 W : World} {g : Nat} {f0 : ByteArray} {f1 : Int} {f2 : Bool} (h : IsS95 w0 W g f0 f1 f2) (m : Nat) : IsS95 w0 (W.drewN m) g f0 f1 f2 := h
theorem IsS95.drew {w0 W : World} {g : Nat} {f0 : ByteArray} {f1 : Int} {f2 : Bool} (h : IsS95 w0 W g f0 f1 f2) : IsS95 w0 W.drew g f0 f1 f2 := h
theorem IsS95.at_ {w0 W : World} {g : Nat} {f0 : ByteArray} {f1 : Int} {f2 : Bool} {w' : World} {m : Nat} (hq : W.drewN m = w') (h : IsS95 w0 W g f0 f1 f2) : IsS95 w0 w' g f0 f1 f2 := by subst hq; exact IsS95.drewN h m
theorem IsS95.apart {w0 W : World} {g : Nat} {f0 : ByteArray} {f1 : Int} {f2 : Bool} {α : Type} {d : Kd α} {e : Nat} {base : Nat} {ok : Nat → Prop} {v : Value} {xs : List α} (h : IsS95 w0 W g f0 f1 f2) (ho : d.R e W base ok v xs) (ht : ∀ q, q ∈ e :: d.E → q ≠ 95) : d.R e W base (fun k => ok k ∧ k ≠ g) v xs := by
  obtain ⟨hb, hg⟩ := h
  exact Kd.R_types ho hb ht
theorem IsS95.own_ne {w0 W : World} {g : Nat} {f0 : ByteArray} {f1 : Int} {f2 : Bool} {α : Type} {d : Kd α} {e : Nat} {base : Nat} {ok : Nat → Prop} {v : Value} {xs : List α} (h : IsS95 w0 W g f0 f1 f2) (ho : d.R e W base ok v xs) (ht : e ≠ 95) : some g ≠ v.ownBlock := by
  obtain ⟨hb, hg⟩ := h
  exact Kd.R_ne ho hb ht
theorem IsS95.apartQ {w0 W : World} {g : Nat} {f0 : ByteArray} {f1 : Int} {f2 : Bool} {α : Type} {d : Kd α} {e : Nat} {base : Nat} {ok : Nat → Prop} {v : Value} {xs : List α} (h : IsS95 w0 W g f0 f1 f2) (ho : d.Q e W base ok v xs) (ht : ∀ q, q ∈ e :: d.E → q ≠ 95) : d.Q e W base (fun k => ok k ∧ k ≠ g) v xs := by
  obtain ⟨hb, hg⟩ := h
  exact Kd.Q_types ho hb ht
theorem IsS95.own_neQ {w0 W : World} {g : Nat} {f0 : ByteArray} {f1 : Int} {f2 : Bool} {α : Type} {d : Kd α} {e : Nat} {base : Nat} {ok : Nat → Prop} {v : Value} {xs : List α} (h : IsS95 w0 W g f0 f1 f2) (ho : d.Q e W base ok v xs) (ht : e ≠ 95) : some g ≠ v.ownBlock := by
  obtain ⟨hb, hg⟩ := h
  exact Kd.Q_ne ho hb ht
theorem IsS95.apartS {w0 W : World} {g : Nat} {f0 : ByteArray} {f1 : Int} {f2 : Bool} {α : Type} {d : Kd α} {e : Nat} {base : Nat} {ok : Nat → Prop} {v : Value} {xs : List α} (h : IsS95 w0 W g f0 f1 f2) (ho : d.S e W base ok v xs) (ht : ∀ q, q ∈ e :: d.E → q ≠ 95) : d.S e W base (fun k => ok k ∧ k ≠ g) v xs := by
  obtain ⟨hb, hg⟩ := h
  exact Kd.S_types ho hb ht
theorem IsS95.own_neS {w0 W : World} {g : Nat} {f0 : ByteArray} {f1 : Int} {f2 : Bool} {α : Type} {d : Kd α} {e : Nat} {base : Nat} {ok : Nat → Prop} {v : Value} {xs : List α} (h : IsS95 w0 W g f0 f1 f2) (ho : d.S e W base ok v xs) (ht : e ≠ 95) : some g ≠ v.ownBlock := by
  obtain ⟨hb, hg⟩ := h
  exact Kd.S_ne ho hb ht
theorem IsS95.lt {w0 W : World} {g : Nat} {f0 : ByteArray} {f1 : Int} {f2 : Bool} (h : IsS95 w0 W g f0 f1 f2) : g < W.heap.size := by
  obtain ⟨hb, hg⟩ := h
  exact blk_lt hb
theorem IsS95.ge {w0 W : World} {g : Nat} {f0 : ByteArray} {f1 : Int} {f2 : Bool} (h : IsS95 w0 W g f0 f1 f2) : w0.heap.size ≤ g := by
  obtain ⟨hb, hg⟩ := h
  exact hg
theorem IsS95.ne_blk {w0 W : World} {g : Nat} {f0 : ByteArray} {f1 : Int} {f2 : Bool} {a : Nat} {cs : Array Value} {t : TypeId} {fr : Nat × Nat} (h : IsS95 w0 W g f0 f1 f2) (hb2 : W.heap[a]? = some (.cells cs t fr)) (ht : t ≠ 95) : g ≠ a := by
  obtain ⟨hb, hg⟩ := h
  rintro rfl
  rw [hb] at hb2
  injection hb2 with hb2
  injection hb2 with _ ht2
  exact ht ht2.symm
theorem IsS95.far {w0 W : World} {g : Nat} {f0 : ByteArray} {f1 : Int} {f2 : Bool} {p : Addr} (h : IsS95 w0 W g f0 f1 f2) (hne : g ≠ p.block) (u : Value) : IsS95 w0 (W.setCell p u) g f0 f1 f2 := by
  obtain ⟨hb, hg⟩ := h
  exact ⟨blk_far hb hne u, hg⟩
theorem cellS95_0 {W : World} {g : Nat} {f0 : ByteArray} {f1 : Int} {f2 : Bool} (h : W.heap[g]? = some (.cells #[.string f0, .int .i64 f1, .bool f2] 95 (0, 0))) : W.cell? ⟨g, 0, none⟩ = some (.string f0) := (blk_cell h 0).trans rfl
theorem IsS95.set_0 {w0 W : World} {g : Nat} {f0 : ByteArray} {f1 : Int} {f2 : Bool} (h : IsS95 w0 W g f0 f1 f2) (x : ByteArray) : IsS95 w0 (W.setCell ⟨g, 0, none⟩ (.string x)) g x f1 f2 := by
  obtain ⟨hb, hg⟩ := h
  exact ⟨by simpa using blk_set hb 0 (.string x), hg⟩
theorem cellS95_1 {W : World} {g : Nat} {f0 : ByteArray} {f1 : Int} {f2 : Bool} (h : W.heap[g]? = some (.cells #[.string f0, .int .i64 f1, .bool f2] 95 (0, 0))) : W.cell? ⟨g, 1, none⟩ = some (.int .i64 f1) := (blk_cell h 1).trans rfl
theorem IsS95.set_1 {w0 W : World} {g : Nat} {f0 : ByteArray} {f1 : Int} {f2 : Bool} (h : IsS95 w0 W g f0 f1 f2) (x : Int) : IsS95 w0 (W.setCell ⟨g, 1, none⟩ (.int .i64 x)) g f0 x f2 := by
  obtain ⟨hb, hg⟩ := h
  exact ⟨by simpa using blk_set hb 1 (.int .i64 x), hg⟩
theorem cellS95_2 {W : World} {g : Nat} {f0 : ByteArray} {f1 : Int} {f2 : Bool} (h : W.heap[g]? = some (.cells #[.string f0, .int .i64 f1, .bool f2] 95 (0, 0))) : W.cell? ⟨g, 2, none⟩ = some (.bool f2) := (blk_cell h 2).trans rfl
theorem IsS95.set_2 {w0 W : World} {g : Nat} {f0 : ByteArray} {f1 : Int} {f2 : Bool} (h : IsS95 w0 W g f0 f1 f2) (x : Bool) : IsS95 w0 (W.setCell ⟨g, 2, none⟩ (.bool x)) g f0 f1 x := by
  obtain ⟨hb, hg⟩ := h
  exact ⟨by simpa using blk_set hb 2 (.bool x), hg⟩
theorem IsS95.new (w0 W : World) (f0 : ByteArray) (f1 : Int) (f2 : Bool) (hB : Below w0.heap.size w0 W) : IsS95 w0 (W.alloc (.cells #[.string f0, .int .i64 f1, .bool f2] 95)) W.heap.size f0 f1 f2 := ⟨by simpa using heap_alloc_new W _, hB.size⟩

/-! ### octet_New: function 32 -/
def octet_New.f (a0 : ByteArray) : Option (ByteArray × Int × Bool) := some (a0, (a0.size : Int), true)
set_option maxHeartbeats 8000000 in
set_option maxRecDepth 100000 in
theorem octet_New.calls (a0 : ByteArray) (r1 : ByteArray) (r2 : Int) (r3 : Bool) (w0 w : World) (hB : Below w0.heap.size w0 w) (h : octet_New.f a0 = some (r1, r2, r3)) :
    Calls Try.prog 32 #[.string a0] w fun e w' => ∃ g_ : Nat, e = .returned (.pointer (some ⟨g_, 0, none⟩)) ∧ IsS95 w0 w' g_ r1 r2 r3 ∧ Below w0.heap.size w0 w' ∧ Below w.heap.size w w' := by
  have hu95 := Try.underlying95
  have HBW := Aside0.mk (Below.refl w.heap.size w)
  have HW0 := Aside0.mk hB.size
  have HB := Aside0.mk hB
  clear hB
  have H : (some (a0, (a0.size : Int), true)) = some (r1, r2, r3) := h
  clear h
  simp only [Option.some.injEq, Prod.mk.injEq] at H
  obtain ⟨rfl, rfl, rfl⟩ := H
  go_enter Try.func32, Try.ntmps32
  go_wp2_with (first | ((with_reducible refine gate_dst (N := 7) rfl ?_); refine box_event ?hg (N := 7) ?hd (cs := #[.string a0, .int .i64 (a0.size : Int), .bool true]) (t := 95) ?hr ?_; (case hd => rfl); (case hg => rfl); (case hr => first | (go_simp; done) | (go_simp; rfl)); intro gb104 hg w2 hbox hb; have n0_ := Aside0.mk (below_step HBW.out hb); have n1_ := Aside0.mk (below_step (by repeat (first | (with_reducible first | exact HB.out | apply below_alloc | apply pw_below_drewN | apply below_drew1) | exact HB.out)) hb); have n2_ := Aside0.mk (hbox); have n3_ := Aside0.mk ((by rw [hg]; exact (below_size (by repeat (first | (with_reducible first | exact HBW.out | apply below_alloc | apply pw_below_drewN | apply below_drew1) | exact HBW.out))) : w.heap.size ≤ gb104)); have n4_ := Aside0.mk ((Nat.le_trans HW0.out (by rw [hg]; exact (below_size (by repeat (first | (with_reducible first | exact HBW.out | apply below_alloc | apply pw_below_drewN | apply below_drew1) | exact HBW.out))) : w.heap.size ≤ gb104) : w0.heap.size ≤ gb104)); clear HBW; clear HB; have HBW := n0_; have HB := n1_; have BK104 := n2_; have GW104 := n3_; have GE104 := n4_; clear n0_ n1_ n2_ n3_ n4_; clear hb hbox hg))
  go_ret
  exact ⟨_, rfl, (show IsS95 w0 _ gb104 a0 (a0.size : Int) true from ⟨by (with_reducible repeat (first | refine blk_drewN ?_ _ | refine blk_drew ?_ | refine blk_alloc ?_ _)); exact BK104.out, GE104.out⟩), by repeat (first | (with_reducible first | exact HB.out | apply below_alloc | apply pw_below_drewN | apply below_drew1 | refine below_set ?_ GE104.out) | exact HB.out), by repeat (first | (with_reducible first | exact HBW.out | apply below_alloc | apply pw_below_drewN | apply below_drew1 | refine below_set ?_ GW104.out) | exact HBW.out)⟩

/-! ### octet_Reader_Bad: function 41 -/
def octet_Reader_Bad.f (s0_0 : ByteArray) (s0_1 : Int) (s0_2 : Bool) : Option (Bool × ByteArray × Int × Bool) := some (!s0_2, s0_0, s0_1, s0_2)
set_option maxHeartbeats 8000000 in
set_option maxRecDepth 100000 in
theorem octet_Reader_Bad.calls (g : Nat) (s0_0 : ByteArray) (s0_1 : Int) (s0_2 : Bool) (r1 : Bool) (r2 : ByteArray) (r3 : Int) (r4 : Bool) (w0 w : World) (hI : IsS95 w0 w g s0_0 s0_1 s0_2) (hB : Below w0.heap.size w0 w) (h : octet_Reader_Bad.f s0_0 s0_1 s0_2 = some (r1, r2, r3, r4)) :
    Calls Try.prog 41 #[.pointer (some ⟨g, 0, none⟩)] w fun e w' => e = .returned (.bool r1) ∧ IsS95 w0 w' g r2 r3 r4 ∧ Below w0.heap.size w0 w' ∧ KeepBut w w' g none := by
  have HI0 := Aside0.mk hI
  have HK := Aside0.mk (KeepBut.refl w g none)
  have HL := Aside0.mk hB.size
  clear hI
  have HW0 := Aside0.mk hB.size
  have HB := Aside0.mk hB
  clear hB
  have H : (some (!s0_2, s0_0, s0_1, s0_2)) = some (r1, r2, r3, r4) := h
  clear h
  simp only [Option.some.injEq, Prod.mk.injEq] at H
  obtain ⟨rfl, rfl, rfl, rfl⟩ := H
  obtain ⟨HGz2, hgz2⟩ := HI0.out
  have hcz2_0 := cellS95_0 HGz2
  have hcz2_1 := cellS95_1 HGz2
  have hcz2_2 := cellS95_2 HGz2
  have hfz2_0 := blk_frozen HGz2 0
  have hfz2_1 := blk_frozen HGz2 1
  have hfz2_2 := blk_frozen HGz2 2
  clear HGz2 hgz2
  go_enter Try.func41, Try.ntmps41
  go_wp2
  go_ret
  exact ⟨by first | rfl | (simp [errW_none, errW_some] <;> rfl) | (simp [*, errW_none, errW_some] <;> rfl), by repeat (first | (with_reducible first | exact HI0.out | apply IsS95.alloc | apply IsS95.drewN | apply IsS95.drew | apply IsS95.set_0 | apply IsS95.set_1 | apply IsS95.set_2) | exact HI0.out), by repeat (first | (with_reducible first | exact HB.out | apply below_alloc | apply pw_below_drewN | apply below_drew1 | refine below_set ?_ (IsS95.ge HI0.out)) | exact HB.out), by repeat (first | (with_reducible first | exact HK.out | apply KeepBut.set_ | apply keep_drewN | apply keep_drew | apply keep_alloc) | exact HK.out)⟩

/-! ### octet_Reader_Text: function 50 -/
def octet_Reader_Text.f (s0_0 : ByteArray) (s0_1 : Int) (s0_2 : Bool) (a1 : Int) : Option (ByteArray × ByteArray × Int × Bool) := (octet_Reader_Bad.f s0_0 s0_1 s0_2).bind fun bt105 => (if bt105.1 = true then (some ((⟨#[]⟩ : ByteArray), bt105.2.1, bt105.2.2.1, bt105.2.2.2)) else (if a1 < 0 then (some ((⟨#[]⟩ : ByteArray), bt105.2.1, bt105.2.2.1, false)) else (if a1 > (bt105.2.1.size : Int) then (some ((⟨#[]⟩ : ByteArray), bt105.2.1, bt105.2.2.1, false)) else (if 0 ≤ a1 then (if a1 ≤ (bt105.2.1.size : Int) then (some (bt105.2.1.extract 0 (a1 : Int).toNat, bt105.2.1.extract (a1 : Int).toNat bt105.2.1.size, bt105.2.2.1, bt105.2.2.2)) else (none)) else (none)))))
set_option maxHeartbeats 8000000 in
set_option maxRecDepth 100000 in
theorem octet_Reader_Text.calls (g : Nat) (s0_0 : ByteArray) (s0_1 : Int) (s0_2 : Bool) (a1 : Int) (r1 : ByteArray) (r2 : ByteArray) (r3 : Int) (r4 : Bool) (w0 w : World) (hI : IsS95 w0 w g s0_0 s0_1 s0_2) (hB : Below w0.heap.size w0 w) (h : octet_Reader_Text.f s0_0 s0_1 s0_2 a1 = some (r1, r2, r3, r4)) :
    Calls Try.prog 50 #[.pointer (some ⟨g, 0, none⟩), .int .i64 a1] w fun e w' => e = .returned (.string r1) ∧ IsS95 w0 w' g r2 r3 r4 ∧ Below w0.heap.size w0 w' ∧ KeepBut w w' g none := by
  have HI0 := Aside0.mk hI
  have HK := Aside0.mk (KeepBut.refl w g none)
  have HL := Aside0.mk hB.size
  clear hI
  have HW0 := Aside0.mk hB.size
  have HB := Aside0.mk hB
  clear hB
  have H : ((octet_Reader_Bad.f s0_0 s0_1 s0_2).bind fun bt105 => (if bt105.1 = true then (some ((⟨#[]⟩ : ByteArray), bt105.2.1, bt105.2.2.1, bt105.2.2.2)) else (if a1 < 0 then (some ((⟨#[]⟩ : ByteArray), bt105.2.1, bt105.2.2.1, false)) else (if a1 > (bt105.2.1.size : Int) then (some ((⟨#[]⟩ : ByteArray), bt105.2.1, bt105.2.2.1, false)) else (if 0 ≤ a1 then (if a1 ≤ (bt105.2.1.size : Int) then (some (bt105.2.1.extract 0 (a1 : Int).toNat, bt105.2.1.extract (a1 : Int).toNat bt105.2.1.size, bt105.2.2.1, bt105.2.2.2)) else (none)) else (none)))))) = some (r1, r2, r3, r4) := h
  clear h
  replace H := Option.bind_eq_some_iff.mp H
  obtain ⟨⟨t105, t106, t107, t108⟩, A30, H⟩ := H
  replace H : (if t105 = true then (some ((⟨#[]⟩ : ByteArray), t106, t107, t108)) else (if a1 < 0 then (some ((⟨#[]⟩ : ByteArray), t106, t107, false)) else (if a1 > (t106.size : Int) then (some ((⟨#[]⟩ : ByteArray), t106, t107, false)) else (if 0 ≤ a1 then (if a1 ≤ (t106.size : Int) then (some (t106.extract 0 (a1 : Int).toNat, t106.extract (a1 : Int).toNat t106.size, t107, t108)) else (none)) else (none))))) = some (r1, r2, r3, r4) := H
  have A3 := Aside0.mk A30
  clear A30
  by_cases c4 : t105 = true
  · subst c4
    have H1 : (some ((⟨#[]⟩ : ByteArray), t106, t107, t108)) = some (r1, r2, r3, r4) := by rw [if_pos rfl] at H; exact H
    clear H
    have H := H1
    clear H1
    simp only [Option.some.injEq, Prod.mk.injEq] at H
    obtain ⟨rfl, rfl, rfl, rfl⟩ := H
    go_enter Try.func50, Try.ntmps50
    go_wp2_with (first | ((with_reducible refine gate_callee (f := 41) rfl ?_); refine goesL_ (some 7) rfl rfl Try.func41 (by kernel_rfl) rfl #[.pointer (some ⟨g, 0, none⟩)] rfl (by (try simp only [List.map_toArray, List.map_cons, List.map_nil]); first | done | rfl | (simp only [List.length_drop, List.length_take]; rfl)) ?_; (with_reducible refine (octet_Reader_Bad.calls g s0_0 s0_1 s0_2 true t106 t107 t108 w0 _ ?side1 ?side2 A3.out).mono ?_); (case side1 => repeat (first | (with_reducible first | exact HI0.out | apply IsS95.alloc | apply IsS95.drewN | apply IsS95.drew | apply IsS95.set_0 | apply IsS95.set_1 | apply IsS95.set_2) | exact HI0.out)); (case side2 => repeat (first | (with_reducible first | exact HB.out | apply below_alloc | apply pw_below_drewN | apply below_drew1 | refine below_set ?_ (IsS95.ge HI0.out)) | exact HB.out)); rintro e w5 ⟨rfl, hi, hb, hk⟩; refine ⟨_, rfl, ?_⟩; have n0_ := Aside0.mk (KeepBut.trans (by repeat (first | (with_reducible first | exact HK.out | apply KeepBut.set_ | apply keep_drewN | apply keep_drew | apply keep_alloc) | exact HK.out)) hk (.inl rfl)); have n1_ := Aside0.mk (hb); have n2_ := Aside0.mk (hi); clear HK; clear HB; clear HI0; have HK := n0_; have HB := n1_; have HI0 := n2_; clear n0_ n1_ n2_; (try clear hb); (try clear hb2); (try clear hk); (try clear hi)))
    go_ret
    exact ⟨by first | rfl | (simp [errW_none, errW_some] <;> rfl) | (simp [*, errW_none, errW_some] <;> rfl), by repeat (first | (with_reducible first | exact HI0.out | apply IsS95.alloc | apply IsS95.drewN | apply IsS95.drew | apply IsS95.set_0 | apply IsS95.set_1 | apply IsS95.set_2) | exact HI0.out), by repeat (first | (with_reducible first | exact HB.out | apply below_alloc | apply pw_below_drewN | apply below_drew1 | refine below_set ?_ (IsS95.ge HI0.out)) | exact HB.out), by repeat (first | (with_reducible first | exact HK.out | apply KeepBut.set_ | apply keep_drewN | apply keep_drew | apply keep_alloc) | exact HK.out)⟩
  · replace c4 := Bool.eq_false_iff.mpr c4
    subst c4
    have H1 : (if a1 < 0 then (some ((⟨#[]⟩ : ByteArray), t106, t107, false)) else (if a1 > (t106.size : Int) then (some ((⟨#[]⟩ : ByteArray), t106, t107, false)) else (if 0 ≤ a1 then (if a1 ≤ (t106.size : Int) then (some (t106.extract 0 (a1 : Int).toNat, t106.extract (a1 : Int).toNat t106.size, t107, t108)) else (none)) else (none)))) = some (r1, r2, r3, r4) := by rw [if_neg (show ¬ (false = true) by decide)] at H; exact H
    clear H
    have H := H1
    clear H1
    by_cases c6 : a1 < 0
    · rw [if_pos c6] at H
      have c6b0 : decide (a1 < 0) = true := decide_eq_true c6
      clear c6
      simp only [Option.some.injEq, Prod.mk.injEq] at H
      obtain ⟨rfl, rfl, rfl, rfl⟩ := H
      go_enter Try.func50, Try.ntmps50
      go_wp2_with (first | ((with_reducible refine gate_callee (f := 41) rfl ?_); refine goesL_ (some 7) rfl rfl Try.func41 (by kernel_rfl) rfl #[.pointer (some ⟨g, 0, none⟩)] rfl (by (try simp only [List.map_toArray, List.map_cons, List.map_nil]); first | done | rfl | (simp only [List.length_drop, List.length_take]; rfl)) ?_; (with_reducible refine (octet_Reader_Bad.calls g s0_0 s0_1 s0_2 false t106 t107 t108 w0 _ ?side1 ?side2 A3.out).mono ?_); (case side1 => repeat (first | (with_reducible first | exact HI0.out | apply IsS95.alloc | apply IsS95.drewN | apply IsS95.drew | apply IsS95.set_0 | apply IsS95.set_1 | apply IsS95.set_2) | exact HI0.out)); (case side2 => repeat (first | (with_reducible first | exact HB.out | apply below_alloc | apply pw_below_drewN | apply below_drew1 | refine below_set ?_ (IsS95.ge HI0.out)) | exact HB.out)); rintro e w7 ⟨rfl, hi, hb, hk⟩; refine ⟨_, rfl, ?_⟩; have n0_ := Aside0.mk (KeepBut.trans (by repeat (first | (with_reducible first | exact HK.out | apply KeepBut.set_ | apply keep_drewN | apply keep_drew | apply keep_alloc) | exact HK.out)) hk (.inl rfl)); have n1_ := Aside0.mk (hb); have n2_ := Aside0.mk (hi); clear HK; clear HB; clear HI0; have HK := n0_; have HB := n1_; have HI0 := n2_; clear n0_ n1_ n2_; (try clear hb); (try clear hb2); (try clear hk); (try clear hi); obtain ⟨HGz8, hgz8⟩ := HI0.out; have hcz8_0 := cellS95_0 HGz8; have hcz8_1 := cellS95_1 HGz8; have hcz8_2 := cellS95_2 HGz8; have hfz8_0 := blk_frozen HGz8 0; have hfz8_1 := blk_frozen HGz8 1; have hfz8_2 := blk_frozen HGz8 2; clear HGz8 hgz8))
      go_ret
      exact ⟨by first | rfl | (simp [errW_none, errW_some] <;> rfl) | (simp [*, errW_none, errW_some] <;> rfl), by repeat (first | (with_reducible first | exact HI0.out | apply IsS95.alloc | apply IsS95.drewN | apply IsS95.drew | apply IsS95.set_0 | apply IsS95.set_1 | apply IsS95.set_2) | exact HI0.out), by repeat (first | (with_reducible first | exact HB.out | apply below_alloc | apply pw_below_drewN | apply below_drew1 | refine below_set ?_ (IsS95.ge HI0.out)) | exact HB.out), by repeat (first | (with_reducible first | exact HK.out | apply KeepBut.set_ | apply keep_drewN | apply keep_drew | apply keep_alloc) | exact HK.out)⟩
    · rw [if_neg c6] at H
      have c6b0 : decide (a1 < 0) = false := decide_eq_false c6
      clear c6
      by_cases c9 : a1 > (t106.size : Int)
      · rw [if_pos c9] at H
        have c9b0 : decide ((t106.size : Int) < a1) = true := decide_eq_true c9
        clear c9
        simp only [Option.some.injEq, Prod.mk.injEq] at H
        obtain ⟨rfl, rfl, rfl, rfl⟩ := H
        go_enter Try.func50, Try.ntmps50
        go_wp2_with (first | ((with_reducible refine gate_callee (f := 41) rfl ?_); refine goesL_ (some 7) rfl rfl Try.func41 (by kernel_rfl) rfl #[.pointer (some ⟨g, 0, none⟩)] rfl (by (try simp only [List.map_toArray, List.map_cons, List.map_nil]); first | done | rfl | (simp only [List.length_drop, List.length_take]; rfl)) ?_; (with_reducible refine (octet_Reader_Bad.calls g s0_0 s0_1 s0_2 false t106 t107 t108 w0 _ ?side1 ?side2 A3.out).mono ?_); (case side1 => repeat (first | (with_reducible first | exact HI0.out | apply IsS95.alloc | apply IsS95.drewN | apply IsS95.drew | apply IsS95.set_0 | apply IsS95.set_1 | apply IsS95.set_2) | exact HI0.out)); (case side2 => repeat (first | (with_reducible first | exact HB.out | apply below_alloc | apply pw_below_drewN | apply below_drew1 | refine below_set ?_ (IsS95.ge HI0.out)) | exact HB.out)); rintro e w10 ⟨rfl, hi, hb, hk⟩; refine ⟨_, rfl, ?_⟩; have n0_ := Aside0.mk (KeepBut.trans (by repeat (first | (with_reducible first | exact HK.out | apply KeepBut.set_ | apply keep_drewN | apply keep_drew | apply keep_alloc) | exact HK.out)) hk (.inl rfl)); have n1_ := Aside0.mk (hb); have n2_ := Aside0.mk (hi); clear HK; clear HB; clear HI0; have HK := n0_; have HB := n1_; have HI0 := n2_; clear n0_ n1_ n2_; (try clear hb); (try clear hb2); (try clear hk); (try clear hi); obtain ⟨HGz11, hgz11⟩ := HI0.out; have hcz11_0 := cellS95_0 HGz11; have hcz11_1 := cellS95_1 HGz11; have hcz11_2 := cellS95_2 HGz11; have hfz11_0 := blk_frozen HGz11 0; have hfz11_1 := blk_frozen HGz11 1; have hfz11_2 := blk_frozen HGz11 2; clear HGz11 hgz11))
        go_ret
        exact ⟨by first | rfl | (simp [errW_none, errW_some] <;> rfl) | (simp [*, errW_none, errW_some] <;> rfl), by repeat (first | (with_reducible first | exact HI0.out | apply IsS95.alloc | apply IsS95.drewN | apply IsS95.drew | apply IsS95.set_0 | apply IsS95.set_1 | apply IsS95.set_2) | exact HI0.out), by repeat (first | (with_reducible first | exact HB.out | apply below_alloc | apply pw_below_drewN | apply below_drew1 | refine below_set ?_ (IsS95.ge HI0.out)) | exact HB.out), by repeat (first | (with_reducible first | exact HK.out | apply KeepBut.set_ | apply keep_drewN | apply keep_drew | apply keep_alloc) | exact HK.out)⟩
      · rw [if_neg c9] at H
        have c9b0 : decide ((t106.size : Int) < a1) = false := decide_eq_false c9
        clear c9
        by_cases c12 : 0 ≤ a1
        · rw [if_pos c12] at H
          have c12b0 := eq_true c12
          have c12b1 : decide (0 ≤ a1) = true := decide_eq_true c12
          clear c12
          by_cases c13 : a1 ≤ (t106.size : Int)
          · rw [if_pos c13] at H
            have c13b0 := eq_true c13
            have c13b1 : decide (a1 ≤ (t106.size : Int)) = true := decide_eq_true c13
            clear c13
            have c14b0 := eq_true (of_decide_eq_true (by first | (with_reducible assumption) | assumption) : 0 ≤ a1)
            have c15b0 := eq_true (of_decide_eq_true (by first | (with_reducible assumption) | assumption) : a1 ≤ (t106.size : Int))
            simp only [Option.some.injEq, Prod.mk.injEq] at H
            obtain ⟨rfl, rfl, rfl, rfl⟩ := H
            go_enter Try.func50, Try.ntmps50
            go_wp2_with (first | ((with_reducible refine gate_callee (f := 41) rfl ?_); refine goesL_ (some 7) rfl rfl Try.func41 (by kernel_rfl) rfl #[.pointer (some ⟨g, 0, none⟩)] rfl (by (try simp only [List.map_toArray, List.map_cons, List.map_nil]); first | done | rfl | (simp only [List.length_drop, List.length_take]; rfl)) ?_; (with_reducible refine (octet_Reader_Bad.calls g s0_0 s0_1 s0_2 false t106 t107 t108 w0 _ ?side1 ?side2 A3.out).mono ?_); (case side1 => repeat (first | (with_reducible first | exact HI0.out | apply IsS95.alloc | apply IsS95.drewN | apply IsS95.drew | apply IsS95.set_0 | apply IsS95.set_1 | apply IsS95.set_2) | exact HI0.out)); (case side2 => repeat (first | (with_reducible first | exact HB.out | apply below_alloc | apply pw_below_drewN | apply below_drew1 | refine below_set ?_ (IsS95.ge HI0.out)) | exact HB.out)); rintro e w16 ⟨rfl, hi, hb, hk⟩; refine ⟨_, rfl, ?_⟩; have n0_ := Aside0.mk (KeepBut.trans (by repeat (first | (with_reducible first | exact HK.out | apply KeepBut.set_ | apply keep_drewN | apply keep_drew | apply keep_alloc) | exact HK.out)) hk (.inl rfl)); have n1_ := Aside0.mk (hb); have n2_ := Aside0.mk (hi); clear HK; clear HB; clear HI0; have HK := n0_; have HB := n1_; have HI0 := n2_; clear n0_ n1_ n2_; (try clear hb); (try clear hb2); (try clear hk); (try clear hi); obtain ⟨HGz17, hgz17⟩ := HI0.out; have hcz17_0 := cellS95_0 HGz17; have hcz17_1 := cellS95_1 HGz17; have hcz17_2 := cellS95_2 HGz17; have hfz17_0 := blk_frozen HGz17 0; have hfz17_1 := blk_frozen HGz17 1; have hfz17_2 := blk_frozen HGz17 2; clear HGz17 hgz17))
            go_ret
            exact ⟨by first | rfl | (simp [errW_none, errW_some] <;> rfl) | (simp [*, errW_none, errW_some] <;> rfl), by repeat (first | (with_reducible first | exact HI0.out | apply IsS95.alloc | apply IsS95.drewN | apply IsS95.drew | apply IsS95.set_0 | apply IsS95.set_1 | apply IsS95.set_2) | exact HI0.out), by repeat (first | (with_reducible first | exact HB.out | apply below_alloc | apply pw_below_drewN | apply below_drew1 | refine below_set ?_ (IsS95.ge HI0.out)) | exact HB.out), by repeat (first | (with_reducible first | exact HK.out | apply KeepBut.set_ | apply keep_drewN | apply keep_drew | apply keep_alloc) | exact HK.out)⟩
          · rw [if_neg c13] at H
            exact absurd H (by simp)
        · rw [if_neg c12] at H
          exact absurd H (by simp)

end Go.Proofs.Ythdlikiakegekaa.S
