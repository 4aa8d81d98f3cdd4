-- Written for this claim by a program of the session (myprint.py), out of the translation's own print; Lean checks it.
import Derived.Test.YthdlikiakegekaaLx0
import Derived.Test.YthdlikiakegekaaLx1
import Derived.Test.YthdlikiakegekaaLx2
import Derived.Test.YthdlikiakegekaaLx3
namespace Go.Proofs.Ythdlikiakegekaa.S
open Go.RowKit Go.Proofs.YthdlikiakegekaaW.PrintWords Go.Proofs.YthdlikiakegekaaW.PrintLast Go.Proofs.YthdlikiakegekaaW.PrintMore
attribute [local go_sem] max2_int min2_int max_two min_two max_three min_three max_four min_four   -- for this text's walks alone
set_option linter.unusedVariables false
set_option linter.unusedSimpArgs false

/-! ### splicerref02_Reader_Num: function 52 -/
mutual
def splicerref02_Reader_Num.j0 : Nat → Int → Bool → ByteArray → Int → Bool → Option (Int × ByteArray × Int × Bool)
  | 0, _, _, _, _, _ => none
  | k + 1, x1, x13, x1000, x1001, x1002 => if x13 = true then (splicerref02_Reader_Num.j1 k x1 x1000 x1001 true) else (splicerref02_Reader_Num.j1 k x1 x1000 x1001 x1002)
def splicerref02_Reader_Num.j1 : Nat → Int → ByteArray → Int → Bool → Option (Int × ByteArray × Int × Bool)
  | 0, _, _, _, _ => none
  | k + 1, x1, x1000, x1001, x1002 => (splicerref02_Reader_Text.f x1000 x1001 x1002 x1).bind fun bt177 => (splicerref02_Reader_Num.l0 k bt177.1 0 0 bt177.2.1 bt177.2.2.1 bt177.2.2.2)
def splicerref02_Reader_Num.l0 : Nat → ByteArray → Int → Int → ByteArray → Int → Bool → Option (Int × ByteArray × Int × Bool)
  | 0, _, _, _, _, _, _ => none
  | k + 1, x5, x6, x7, x1000, x1001, x1002 => if x7 < (x5.size : Int) then (if 0 ≤ x7 then (splicerref02_Reader_Num.l0 k x5 (wrap64 ((wrap64 (x6 * 256)) + (wrap64 (bt x5 x7)))) (wrap64 (x7 + 1)) x1000 x1001 x1002) else (none)) else (some (x6, x1000, x1001, x1002))
end
def splicerref02_Reader_Num.f (k : Nat) (s0_0 : ByteArray) (s0_1 : Int) (s0_2 : Bool) (a1 : Int) : Option (Int × ByteArray × Int × Bool) := if a1 < 1 then (splicerref02_Reader_Num.j0 k a1 true s0_0 s0_1 s0_2) else (splicerref02_Reader_Num.j0 k a1 (decide (a1 > 7)) s0_0 s0_1 s0_2)
theorem splicerref02_Reader_Num.mono_l : ∀ k, (∀ y0 y1 y2 y3 y4, LeO (splicerref02_Reader_Num.j0 k y0 y1 y2 y3 y4) (splicerref02_Reader_Num.j0 (k + 1) y0 y1 y2 y3 y4)) ∧ (∀ y0 y1 y2 y3, LeO (splicerref02_Reader_Num.j1 k y0 y1 y2 y3) (splicerref02_Reader_Num.j1 (k + 1) y0 y1 y2 y3)) ∧ (∀ y0 y1 y2 y3 y4 y5, LeO (splicerref02_Reader_Num.l0 k y0 y1 y2 y3 y4 y5) (splicerref02_Reader_Num.l0 (k + 1) y0 y1 y2 y3 y4 y5))
  | 0 => ⟨fun _ _ _ _ _ r h => by simp [splicerref02_Reader_Num.j0] at h, fun _ _ _ _ r h => by simp [splicerref02_Reader_Num.j1] at h, fun _ _ _ _ _ _ r h => by simp [splicerref02_Reader_Num.l0] at h⟩
  | k + 1 => by
    obtain ⟨ih0, ih1, ih2⟩ := splicerref02_Reader_Num.mono_l k
    refine ⟨?_, ?_, ?_⟩
    · intro y0 y1 y2 y3 y4
      unfold splicerref02_Reader_Num.j0
      repeat' first
      | (with_reducible exact ih0 _ _ _ _ _)
      | (with_reducible exact ih1 _ _ _ _)
      | (with_reducible exact ih2 _ _ _ _ _ _)
      | (with_reducible exact LeO.refl _)
      | (with_reducible exact LeO.none _)
      | (with_reducible refine LeO.ite ?_ ?_)
      | (with_reducible refine LeO.bind ?_ (fun _ => ?_))
      | exact ih0 _ _ _ _ _
      | exact ih1 _ _ _ _
      | exact ih2 _ _ _ _ _ _
      | exact LeO.none _
      | refine LeO.ite ?_ ?_
      | refine LeO.bind ?_ (fun _ => ?_)
    · intro y0 y1 y2 y3
      unfold splicerref02_Reader_Num.j1
      repeat' first
      | (with_reducible exact ih0 _ _ _ _ _)
      | (with_reducible exact ih1 _ _ _ _)
      | (with_reducible exact ih2 _ _ _ _ _ _)
      | (with_reducible exact LeO.refl _)
      | (with_reducible exact LeO.none _)
      | (with_reducible refine LeO.ite ?_ ?_)
      | (with_reducible refine LeO.bind ?_ (fun _ => ?_))
      | exact ih0 _ _ _ _ _
      | exact ih1 _ _ _ _
      | exact ih2 _ _ _ _ _ _
      | exact LeO.none _
      | refine LeO.ite ?_ ?_
      | refine LeO.bind ?_ (fun _ => ?_)
    · intro y0 y1 y2 y3 y4 y5
      unfold splicerref02_Reader_Num.l0
      repeat' first
      | (with_reducible exact ih0 _ _ _ _ _)
      | (with_reducible exact ih1 _ _ _ _)
      | (with_reducible exact ih2 _ _ _ _ _ _)
      | (with_reducible exact LeO.refl _)
      | (with_reducible exact LeO.none _)
      | (with_reducible refine LeO.ite ?_ ?_)
      | (with_reducible refine LeO.bind ?_ (fun _ => ?_))
      | exact ih0 _ _ _ _ _
      | exact ih1 _ _ _ _
      | exact ih2 _ _ _ _ _ _
      | exact LeO.none _
      | refine LeO.ite ?_ ?_
      | refine LeO.bind ?_ (fun _ => ?_)
theorem splicerref02_Reader_Num.mono : ∀ a0 a1 a2 a3 k, LeO (splicerref02_Reader_Num.f k a0 a1 a2 a3) (splicerref02_Reader_Num.f (k + 1) a0 a1 a2 a3) := by
  intro a0 a1 a2 a3 k
  obtain ⟨ih0, ih1, ih2⟩ := splicerref02_Reader_Num.mono_l k
  unfold splicerref02_Reader_Num.f
  repeat' first
      | (with_reducible exact ih0 _ _ _ _ _)
      | (with_reducible exact ih1 _ _ _ _)
      | (with_reducible exact ih2 _ _ _ _ _ _)
      | (with_reducible exact LeO.refl _)
      | (with_reducible exact LeO.none _)
      | (with_reducible refine LeO.ite ?_ ?_)
      | (with_reducible refine LeO.bind ?_ (fun _ => ?_))
      | exact ih0 _ _ _ _ _
      | exact ih1 _ _ _ _
      | exact ih2 _ _ _ _ _ _
      | exact LeO.none _
      | refine LeO.ite ?_ ?_
      | refine LeO.bind ?_ (fun _ => ?_)
set_option maxHeartbeats 8000000 in
set_option maxRecDepth 100000 in
theorem splicerref02_Reader_Num.calls (k : Nat) (g : Nat) (s0_0 : ByteArray) (s0_1 : Int) (s0_2 : Bool) (a1 : Int) (r1 : Int) (r2 : ByteArray) (r3 : Int) (r4 : Bool) (w0 w : World) (hI : IsS59 w0 w g s0_0 s0_1 s0_2) (hB : Below w0.heap.size w0 w) (h : splicerref02_Reader_Num.f k s0_0 s0_1 s0_2 a1 = some (r1, r2, r3, r4)) :
    Calls Try.prog 52 #[.pointer (some ⟨g, 0, none⟩), .int .i64 a1] w fun e w' => e = .returned (.int .i64 r1) ∧ IsS59 w0 w' g r2 r3 r4 ∧ Below w0.heap.size w0 w' ∧ KeepBut w w' g none := by
  have HI0 := Aside0.mk hI
  have HK := Aside0.mk (KeepBut.refl w g none)
  have HL := Aside0.mk hB.size
  clear hI
  have HW0 := Aside0.mk hB.size
  have HB := Aside0.mk hB
  clear hB
  have H : (if a1 < 1 then (splicerref02_Reader_Num.j0 k a1 true s0_0 s0_1 s0_2) else (splicerref02_Reader_Num.j0 k a1 (decide (a1 > 7)) s0_0 s0_1 s0_2)) = some (r1, r2, r3, r4) := h
  clear h
  have HC3 := Aside0.mk H
  clear H
  go_enter Try.func52, Try.ntmps52
  go_upto_region 1 with (fail)
  go_cut [13] (fun v13 wc => ∃ (kq : Nat) (x13_2 : Bool), v13 = .bool x13_2 ∧ Aside0 (splicerref02_Reader_Num.j0 kq a1 x13_2 s0_0 s0_1 s0_2 = some (r1, r2, r3, r4)) ∧ Aside0 (kq ≤ k) ∧ Aside0 (IsS59 w0 wc g s0_0 s0_1 s0_2) ∧ Aside0 (KeepBut w wc g none) ∧ Aside0 (Below w0.heap.size w0 wc))
  case first =>
    have H := HC3.out
    clear HC3
    by_cases c4 : a1 < 1
    · rw [if_pos c4] at H
      have c4b0 : decide (a1 < 1) = true := decide_eq_true c4
      clear c4
      (first | rw [c4b0] | (simp only [i64_w, i32_w]; rw [c4b0]) | skip)
      have H' := Aside0.mk H
      clear H
      go_wp2
      go_meet
      case rel => exact ⟨_, (true), (by first | rfl | (simp; done) | (simp [*]; done)), H', ⟨by first | omega | exact Nat.le_refl _⟩, ⟨by repeat (first | (with_reducible first | exact HI0.out | apply IsS59.alloc | apply IsS59.drewN | apply IsS59.drew | apply IsS59.set_0 | apply IsS59.set_1 | apply IsS59.set_2) | exact HI0.out)⟩, ⟨by repeat (first | (with_reducible first | exact HK.out | apply KeepBut.set_ | apply keep_drewN | apply keep_drew | apply keep_alloc) | exact HK.out)⟩, ⟨by repeat (first | (with_reducible first | exact HB.out | apply below_alloc | apply pw_below_drewN | apply below_drew1 | refine below_set ?_ (IsS59.ge HI0.out)) | exact HB.out)⟩⟩
    · rw [if_neg c4] at H
      have c4b0 : decide (a1 < 1) = false := decide_eq_false c4
      clear c4
      (first | rw [c4b0] | (simp only [i64_w, i32_w]; rw [c4b0]) | skip)
      have H' := Aside0.mk H
      clear H
      go_wp2
      go_meet
      case rel => exact ⟨_, (decide (a1 > 7)), (by first | rfl | (simp; done) | (simp [*]; done)), H', ⟨by first | omega | exact Nat.le_refl _⟩, ⟨by repeat (first | (with_reducible first | exact HI0.out | apply IsS59.alloc | apply IsS59.drewN | apply IsS59.drew | apply IsS59.set_0 | apply IsS59.set_1 | apply IsS59.set_2) | exact HI0.out)⟩, ⟨by repeat (first | (with_reducible first | exact HK.out | apply KeepBut.set_ | apply keep_drewN | apply keep_drew | apply keep_alloc) | exact HK.out)⟩, ⟨by repeat (first | (with_reducible first | exact HB.out | apply below_alloc | apply pw_below_drewN | apply below_drew1 | refine below_set ?_ (IsS59.ge HI0.out)) | exact HB.out)⟩⟩
  case rest =>
    clear HC3
    try clear p2
    try clear c4
    try clear c4b0
    obtain ⟨kq, x13_2, rfl, HA, HJ2, HI0, HK, HB⟩ := hcut
    cases kq with
    | zero => exact absurd HA.out (by simp [splicerref02_Reader_Num.j0])
    | succ kj2 =>
      have H := HA.out
      clear HA
      simp only [splicerref02_Reader_Num.j0] at H
      have HC5 := Aside0.mk H
      clear H
      go_upto_if 13 with (fail)
      go_cut [] (fun wc => ∃ (kq : Nat) (x1002_4 : Bool), Aside0 (splicerref02_Reader_Num.j1 kq a1 s0_0 s0_1 x1002_4 = some (r1, r2, r3, r4)) ∧ Aside0 (kq ≤ kj2) ∧ Aside0 (IsS59 w0 wc g s0_0 s0_1 x1002_4) ∧ Aside0 (KeepBut w wc g none) ∧ Aside0 (Below w0.heap.size w0 wc))
      case first =>
        have H := HC5.out
        clear HC5
        by_cases c6 : x13_2 = true
        · subst c6
          have H1 : (splicerref02_Reader_Num.j1 kj2 a1 s0_0 s0_1 true) = some (r1, r2, r3, r4) := by rw [if_pos rfl] at H; exact H
          clear H
          have H := H1
          clear H1
          have H' := Aside0.mk H
          clear H
          obtain ⟨HGz7, hgz7⟩ := HI0.out
          have hcz7_0 := cellS59_0 HGz7
          have hcz7_1 := cellS59_1 HGz7
          have hcz7_2 := cellS59_2 HGz7
          have hfz7_0 := blk_frozen HGz7 0
          have hfz7_1 := blk_frozen HGz7 1
          have hfz7_2 := blk_frozen HGz7 2
          clear HGz7 hgz7
          go_wp2
          go_meet
          case rel => exact ⟨_, (true), H', ⟨by have := HJ2.out; first | omega | exact Nat.le_refl _⟩, ⟨by repeat (first | (with_reducible first | exact HI0.out | apply IsS59.alloc | apply IsS59.drewN | apply IsS59.drew | apply IsS59.set_0 | apply IsS59.set_1 | apply IsS59.set_2) | exact HI0.out)⟩, ⟨by repeat (first | (with_reducible first | exact HK.out | apply KeepBut.set_ | apply keep_drewN | apply keep_drew | apply keep_alloc) | exact HK.out)⟩, ⟨by repeat (first | (with_reducible first | exact HB.out | apply below_alloc | apply pw_below_drewN | apply below_drew1 | refine below_set ?_ (IsS59.ge HI0.out)) | exact HB.out)⟩⟩
        · replace c6 := Bool.eq_false_iff.mpr c6
          subst c6
          have H1 : (splicerref02_Reader_Num.j1 kj2 a1 s0_0 s0_1 s0_2) = some (r1, r2, r3, r4) := by rw [if_neg (show ¬ (false = true) by decide)] at H; exact H
          clear H
          have H := H1
          clear H1
          have H' := Aside0.mk H
          clear H
          go_wp2
          go_meet
          case rel => exact ⟨_, (s0_2), H', ⟨by have := HJ2.out; first | omega | exact Nat.le_refl _⟩, ⟨by repeat (first | (with_reducible first | exact HI0.out | apply IsS59.alloc | apply IsS59.drewN | apply IsS59.drew | apply IsS59.set_0 | apply IsS59.set_1 | apply IsS59.set_2) | exact HI0.out)⟩, ⟨by repeat (first | (with_reducible first | exact HK.out | apply KeepBut.set_ | apply keep_drewN | apply keep_drew | apply keep_alloc) | exact HK.out)⟩, ⟨by repeat (first | (with_reducible first | exact HB.out | apply below_alloc | apply pw_below_drewN | apply below_drew1 | refine below_set ?_ (IsS59.ge HI0.out)) | exact HB.out)⟩⟩
      case rest =>
        clear HC5
        try clear p2
        try clear c4
        try clear c4b0
        try clear c5
        try clear c6
        try clear hcz7_0
        try clear hcz7_1
        try clear hcz7_2
        try clear hfz7_0
        try clear hfz7_1
        try clear hfz7_2
        try clear p2
        obtain ⟨kq, x1002_4, HA, HJ4, HI0, HK, HB⟩ := hcut
        cases kq with
        | zero => exact absurd HA.out (by simp [splicerref02_Reader_Num.j1])
        | succ kj4 =>
          have H := HA.out
          clear HA
          simp only [splicerref02_Reader_Num.j1] at H
          replace H := Option.bind_eq_some_iff.mp H
          obtain ⟨⟨t177, t178, t179, t180⟩, A80, H⟩ := H
          replace H : (splicerref02_Reader_Num.l0 kj4 t177 0 0 t178 t179 t180) = some (r1, r2, r3, r4) := H
          have A8 := Aside0.mk A80
          clear A80
          have H' := Aside0.mk H
          clear H
          go_wp2_with (first | ((with_reducible refine gate_callee (f := 62) rfl ?_); refine goesL_ (some 19) rfl rfl Try.func62 (by kernel_rfl) rfl #[.pointer (some ⟨g, 0, none⟩), .int .i64 a1] rfl (by (try simp only [List.map_toArray, List.map_cons, List.map_nil]); first | done | rfl | (simp only [List.length_drop, List.length_take]; rfl)) ?_; (with_reducible refine (splicerref02_Reader_Text.calls g s0_0 s0_1 x1002_4 a1 t177 t178 t179 t180 w0 _ ?side1 ?side2 A8.out).mono ?_); (case side1 => repeat (first | (with_reducible first | exact HI0.out | apply IsS59.alloc | apply IsS59.drewN | apply IsS59.drew | apply IsS59.set_0 | apply IsS59.set_1 | apply IsS59.set_2) | exact HI0.out)); (case side2 => repeat (first | (with_reducible first | exact HB.out | apply below_alloc | apply pw_below_drewN | apply below_drew1 | refine below_set ?_ (IsS59.ge HI0.out)) | exact HB.out)); rintro e w9 ⟨rfl, hi, hb, hk⟩; refine ⟨_, rfl, ?_⟩; have n0_ := Aside0.mk (KeepBut.trans (by repeat (first | (with_reducible first | exact HK.out | apply KeepBut.set_ | apply keep_drewN | apply keep_drew | apply keep_alloc) | exact HK.out)) hk (.inl rfl)); have n1_ := Aside0.mk (hb); have n2_ := Aside0.mk (hi); clear HK; clear HB; clear HI0; have HK := n0_; have HB := n1_; have HI0 := n2_; clear n0_ n1_ n2_; (try clear hb); (try clear hb2); (try clear hk); (try clear hi)))
          go_loopg [6, 7] kj4 (fun kq v6 v7 w' => ∃ (x6_3 : Int) (x7_3 : Int), v6 = .int .i64 x6_3 ∧ v7 = .int .i64 x7_3 ∧ Aside0 (splicerref02_Reader_Num.l0 kq t177 x6_3 x7_3 t178 t179 t180 = some (r1, r2, r3, r4)) ∧ Aside0 (kq ≤ kj4) ∧ Aside0 (IsS59 w0 w' g t178 t179 t180) ∧ Aside0 (KeepBut w w' g none) ∧ Aside0 (Below w0.heap.size w0 w'))
          case atStart => exact ⟨(0), (0), (by first | rfl | (simp; done) | (simp [*]; done)), (by first | rfl | (simp; done) | (simp [*]; done)), H', ⟨Nat.le_refl _⟩, ⟨by repeat (first | (with_reducible first | exact HI0.out | apply IsS59.alloc | apply IsS59.drewN | apply IsS59.drew | apply IsS59.set_0 | apply IsS59.set_1 | apply IsS59.set_2) | exact HI0.out)⟩, ⟨by repeat (first | (with_reducible first | exact HK.out | apply KeepBut.set_ | apply keep_drewN | apply keep_drew | apply keep_alloc) | exact HK.out)⟩, ⟨by repeat (first | (with_reducible first | exact HB.out | apply below_alloc | apply pw_below_drewN | apply below_drew1 | refine below_set ?_ (IsS59.ge HI0.out)) | exact HB.out)⟩⟩
          case round =>
            clear H'
            try clear p2
            try clear c4
            try clear c4b0
            try clear c5
            try clear c6
            try clear hcz7_0
            try clear hcz7_1
            try clear hcz7_2
            try clear hfz7_0
            try clear hfz7_1
            try clear hfz7_2
            try clear p2
            obtain ⟨x6_3, x7_3, rfl, rfl, HA, HK3, HI0, HK, HB⟩ := hrel
            cases gk with
            | zero => exact absurd HA.out (by simp [splicerref02_Reader_Num.l0])
            | succ k3 =>
              have H := HA.out
              clear HA
              simp only [splicerref02_Reader_Num.l0] at H
              by_cases c10 : x7_3 < (t177.size : Int)
              · rw [if_pos c10] at H
                have c10b0 : decide (x7_3 < (t177.size : Int)) = true := decide_eq_true c10
                clear c10
                by_cases c11 : 0 ≤ x7_3
                · rw [if_pos c11] at H
                  have c11b0 : decide (0 ≤ x7_3) = true := decide_eq_true c11
                  clear c11
                  have H' := Aside0.mk H
                  clear H
                  have p12 : 0 ≤ (x7_3 : Int) := of_decide_eq_true (by first | (with_reducible assumption) | assumption)
                  have q12 : x7_3 < (t177.size : Int) := of_decide_eq_true (by first | (with_reducible assumption) | assumption)
                  have hx12 := bt_at t177 x7_3
                  replace p12 := eq_true p12
                  replace q12 := eq_true q12
                  go_wp2
                  go_roundg k3
                  case measure => have := HJ2.out; have := HJ4.out; have := HK3.out; omega
                  case rel => exact ⟨(wrap64 ((wrap64 (x6_3 * 256)) + (wrap64 (bt t177 x7_3)))), (wrap64 (x7_3 + 1)), (by first | rfl | (simp; done) | (simp [*]; done)), (by first | rfl | (simp; done) | (simp [*]; done)), H', ⟨by have := HJ2.out; have := HJ4.out; have := HK3.out; omega⟩, ⟨by repeat (first | (with_reducible first | exact HI0.out | apply IsS59.alloc | apply IsS59.drewN | apply IsS59.drew | apply IsS59.set_0 | apply IsS59.set_1 | apply IsS59.set_2) | exact HI0.out)⟩, ⟨by repeat (first | (with_reducible first | exact HK.out | apply KeepBut.set_ | apply keep_drewN | apply keep_drew | apply keep_alloc) | exact HK.out)⟩, ⟨by repeat (first | (with_reducible first | exact HB.out | apply below_alloc | apply pw_below_drewN | apply below_drew1 | refine below_set ?_ (IsS59.ge HI0.out)) | exact HB.out)⟩⟩
                · rw [if_neg c11] at H
                  exact absurd H (by simp)
              · rw [if_neg c10] at H
                have c10b0 : decide (x7_3 < (t177.size : Int)) = false := decide_eq_false c10
                clear c10
                simp only [Option.some.injEq, Prod.mk.injEq] at H
                obtain ⟨rfl, rfl, rfl, rfl⟩ := H
                go_wp2
                go_ret
                exact ⟨by first | rfl | (simp [errW_none, errW_some] <;> rfl) | (simp [*, errW_none, errW_some] <;> rfl), by repeat (first | (with_reducible first | exact HI0.out | apply IsS59.alloc | apply IsS59.drewN | apply IsS59.drew | apply IsS59.set_0 | apply IsS59.set_1 | apply IsS59.set_2) | exact HI0.out), by repeat (first | (with_reducible first | exact HB.out | apply below_alloc | apply pw_below_drewN | apply below_drew1 | refine below_set ?_ (IsS59.ge HI0.out)) | exact HB.out), by repeat (first | (with_reducible first | exact HK.out | apply KeepBut.set_ | apply keep_drewN | apply keep_drew | apply keep_alloc) | exact HK.out)⟩

/-! ### splicerref30_Get: function 34 -/
mutual
def splicerref30_Get.l0 : Nat → Int → ByteArray → Int → Bool → Option (Int × Bool × ByteArray × Int × Bool)
  | 0, _, _, _, _ => none
  | k + 1, x4, x1000, x1001, x1002 => (splicerref02_Reader_Left.f x1000 x1001 x1002).bind fun bt181 => (if bt181.1 > 0 then (splicerref30_Get.j1 k x4 (decide (x4 ≤ 1024)) bt181.2.1 bt181.2.2.1 bt181.2.2.2) else (splicerref30_Get.j1 k x4 false bt181.2.1 bt181.2.2.1 bt181.2.2.2))
def splicerref30_Get.j1 : Nat → Int → Bool → ByteArray → Int → Bool → Option (Int × Bool × ByteArray × Int × Bool)
  | 0, _, _, _, _, _ => none
  | k + 1, x4, x12, x1000, x1001, x1002 => if x12 = true then ((splicerref02_Reader_Num.f k x1000 x1001 x1002 1).bind fun bt185 => (if bt185.1 < 255 then (if (wrap64 (x4 + bt185.1)) > 1024 then (some (0, false, bt185.2.1, bt185.2.2.1, bt185.2.2.2)) else (some (wrap64 (x4 + bt185.1), true, bt185.2.1, bt185.2.2.1, bt185.2.2.2))) else (splicerref30_Get.l0 k (wrap64 (x4 + bt185.1)) bt185.2.1 bt185.2.2.1 bt185.2.2.2))) else (some (0, false, x1000, x1001, x1002))
end
def splicerref30_Get.f (k : Nat) (s0_0 : ByteArray) (s0_1 : Int) (s0_2 : Bool) : Option (Int × Bool × ByteArray × Int × Bool) := splicerref30_Get.l0 k 0 s0_0 s0_1 s0_2
theorem splicerref30_Get.mono_l : ∀ k, (∀ y0 y1 y2 y3, LeO (splicerref30_Get.l0 k y0 y1 y2 y3) (splicerref30_Get.l0 (k + 1) y0 y1 y2 y3)) ∧ (∀ y0 y1 y2 y3 y4, LeO (splicerref30_Get.j1 k y0 y1 y2 y3 y4) (splicerref30_Get.j1 (k + 1) y0 y1 y2 y3 y4))
  | 0 => ⟨fun _ _ _ _ r h => by simp [splicerref30_Get.l0] at h, fun _ _ _ _ _ r h => by simp [splicerref30_Get.j1] at h⟩
  | k + 1 => by
    obtain ⟨ih0, ih1⟩ := splicerref30_Get.mono_l k
    refine ⟨?_, ?_⟩
    · intro y0 y1 y2 y3
      unfold splicerref30_Get.l0
      repeat' first
      | (with_reducible exact ih0 _ _ _ _)
      | (with_reducible exact ih1 _ _ _ _ _)
      | (with_reducible exact splicerref02_Reader_Num.mono _ _ _ _ _)
      | (with_reducible exact LeO.refl _)
      | (with_reducible exact LeO.none _)
      | (with_reducible refine LeO.ite ?_ ?_)
      | (with_reducible refine LeO.bind ?_ (fun _ => ?_))
      | exact ih0 _ _ _ _
      | exact ih1 _ _ _ _ _
      | exact splicerref02_Reader_Num.mono _ _ _ _ _
      | exact LeO.none _
      | refine LeO.ite ?_ ?_
      | refine LeO.bind ?_ (fun _ => ?_)
    · intro y0 y1 y2 y3 y4
      unfold splicerref30_Get.j1
      repeat' first
      | (with_reducible exact ih0 _ _ _ _)
      | (with_reducible exact ih1 _ _ _ _ _)
      | (with_reducible exact splicerref02_Reader_Num.mono _ _ _ _ _)
      | (with_reducible exact LeO.refl _)
      | (with_reducible exact LeO.none _)
      | (with_reducible refine LeO.ite ?_ ?_)
      | (with_reducible refine LeO.bind ?_ (fun _ => ?_))
      | exact ih0 _ _ _ _
      | exact ih1 _ _ _ _ _
      | exact splicerref02_Reader_Num.mono _ _ _ _ _
      | exact LeO.none _
      | refine LeO.ite ?_ ?_
      | refine LeO.bind ?_ (fun _ => ?_)
theorem splicerref30_Get.mono : ∀ a0 a1 a2 k, LeO (splicerref30_Get.f k a0 a1 a2) (splicerref30_Get.f (k + 1) a0 a1 a2) := by
  intro a0 a1 a2 k
  obtain ⟨ih0, ih1⟩ := splicerref30_Get.mono_l k
  unfold splicerref30_Get.f
  repeat' first
      | (with_reducible exact ih0 _ _ _ _)
      | (with_reducible exact ih1 _ _ _ _ _)
      | (with_reducible exact splicerref02_Reader_Num.mono _ _ _ _ _)
      | (with_reducible exact LeO.refl _)
      | (with_reducible exact LeO.none _)
      | (with_reducible refine LeO.ite ?_ ?_)
      | (with_reducible refine LeO.bind ?_ (fun _ => ?_))
      | exact ih0 _ _ _ _
      | exact ih1 _ _ _ _ _
      | exact splicerref02_Reader_Num.mono _ _ _ _ _
      | exact LeO.none _
      | refine LeO.ite ?_ ?_
      | refine LeO.bind ?_ (fun _ => ?_)
set_option maxHeartbeats 8000000 in
set_option maxRecDepth 100000 in
theorem splicerref30_Get.calls (k : Nat) (g : Nat) (s0_0 : ByteArray) (s0_1 : Int) (s0_2 : Bool) (r1 : Int) (r2 : Bool) (r3 : ByteArray) (r4 : Int) (r5 : Bool) (w0 w : World) (hI : IsS59 w0 w g s0_0 s0_1 s0_2) (hB : Below w0.heap.size w0 w) (h : splicerref30_Get.f k s0_0 s0_1 s0_2 = some (r1, r2, r3, r4, r5)) :
    Calls Try.prog 34 #[.pointer (some ⟨g, 0, none⟩)] w fun e w' => e = .returned (.tuple #[.int .i64 r1, .bool r2]) ∧ IsS59 w0 w' g r3 r4 r5 ∧ Below w0.heap.size w0 w' ∧ KeepBut w w' g none := by
  have HI0 := Aside0.mk hI
  have HK := Aside0.mk (KeepBut.refl w g none)
  have HL := Aside0.mk hB.size
  clear hI
  have HW0 := Aside0.mk hB.size
  have HB := Aside0.mk hB
  clear hB
  have H : (splicerref30_Get.l0 k 0 s0_0 s0_1 s0_2) = some (r1, r2, r3, r4, r5) := h
  clear h
  have H' := Aside0.mk H
  clear H
  go_enter Try.func34, Try.ntmps34
  go_wp2
  go_loopg [4] k (fun kq v4 w' => ∃ (x4_1 : Int) (x1000_1 : ByteArray) (x1001_1 : Int) (x1002_1 : Bool), v4 = .int .i64 x4_1 ∧ Aside0 (splicerref30_Get.l0 kq x4_1 x1000_1 x1001_1 x1002_1 = some (r1, r2, r3, r4, r5)) ∧ Aside0 (kq ≤ k) ∧ Aside0 (IsS59 w0 w' g x1000_1 x1001_1 x1002_1) ∧ Aside0 (KeepBut w w' g none) ∧ Aside0 (Below w0.heap.size w0 w'))
  case atStart => exact ⟨(0), (s0_0), (s0_1), (s0_2), (by first | rfl | (simp; done) | (simp [*]; done)), H', ⟨Nat.le_refl _⟩, ⟨by repeat (first | (with_reducible first | exact HI0.out | apply IsS59.alloc | apply IsS59.drewN | apply IsS59.drew | apply IsS59.set_0 | apply IsS59.set_1 | apply IsS59.set_2) | exact HI0.out)⟩, ⟨by repeat (first | (with_reducible first | exact HK.out | apply KeepBut.set_ | apply keep_drewN | apply keep_drew | apply keep_alloc) | exact HK.out)⟩, ⟨by repeat (first | (with_reducible first | exact HB.out | apply below_alloc | apply pw_below_drewN | apply below_drew1 | refine below_set ?_ (IsS59.ge HI0.out)) | exact HB.out)⟩⟩
  case round =>
    clear H'
    obtain ⟨x4_1, x1000_1, x1001_1, x1002_1, rfl, HA, HK1, HI0, HK, HB⟩ := hrel
    cases gk with
    | zero => exact absurd HA.out (by simp [splicerref30_Get.l0])
    | succ k1 =>
      have H := HA.out
      clear HA
      simp only [splicerref30_Get.l0] at H
      have HC2 := Aside0.mk H
      clear H
      go_upto_region 2 with (fail)
      go_cut [12] (fun v12 wc => ∃ (kq : Nat) (x12_1 : Bool) (x1000_1 : ByteArray) (x1001_1 : Int) (x1002_1 : Bool), v12 = .bool x12_1 ∧ Aside0 (splicerref30_Get.j1 kq x4_1 x12_1 x1000_1 x1001_1 x1002_1 = some (r1, r2, r3, r4, r5)) ∧ Aside0 (kq ≤ k1) ∧ Aside0 (IsS59 w0 wc g x1000_1 x1001_1 x1002_1) ∧ Aside0 (KeepBut w wc g none) ∧ Aside0 (Below w0.heap.size w0 wc))
      case first =>
        have H := HC2.out
        clear HC2
        replace H := Option.bind_eq_some_iff.mp H
        obtain ⟨⟨t181, t182, t183, t184⟩, A30, H⟩ := H
        replace H : (if t181 > 0 then (splicerref30_Get.j1 k1 x4_1 (decide (x4_1 ≤ 1024)) t182 t183 t184) else (splicerref30_Get.j1 k1 x4_1 false t182 t183 t184)) = some (r1, r2, r3, r4, r5) := H
        have A3 := Aside0.mk A30
        clear A30
        by_cases c4 : t181 > 0
        · rw [if_pos c4] at H
          have c4b0 : decide (0 < t181) = true := decide_eq_true c4
          clear c4
          (first | rw [c4b0] | (simp only [i64_w, i32_w]; rw [c4b0]) | skip)
          have H' := Aside0.mk H
          clear H
          go_wp2_with (first | ((with_reducible refine gate_callee (f := 36) rfl ?_); refine goesL_ (some 7) rfl rfl Try.func36 (by kernel_rfl) rfl #[.pointer (some ⟨g, 0, none⟩)] rfl (by (try simp only [List.map_toArray, List.map_cons, List.map_nil]); first | done | rfl | (simp only [List.length_drop, List.length_take]; rfl)) ?_; (with_reducible refine (splicerref02_Reader_Left.calls g x1000_1 x1001_1 x1002_1 t181 t182 t183 t184 w0 _ ?side1 ?side2 A3.out).mono ?_); (case side1 => repeat (first | (with_reducible first | exact HI0.out | apply IsS59.alloc | apply IsS59.drewN | apply IsS59.drew | apply IsS59.set_0 | apply IsS59.set_1 | apply IsS59.set_2) | exact HI0.out)); (case side2 => repeat (first | (with_reducible first | exact HB.out | apply below_alloc | apply pw_below_drewN | apply below_drew1 | refine below_set ?_ (IsS59.ge HI0.out)) | exact HB.out)); rintro e w5 ⟨rfl, hi, hb, hk⟩; refine ⟨_, rfl, ?_⟩; have n0_ := Aside0.mk (KeepBut.trans (by repeat (first | (with_reducible first | exact HK.out | apply KeepBut.set_ | apply keep_drewN | apply keep_drew | apply keep_alloc) | exact HK.out)) hk (.inl rfl)); have n1_ := Aside0.mk (hb); have n2_ := Aside0.mk (hi); clear HK; clear HB; clear HI0; have HK := n0_; have HB := n1_; have HI0 := n2_; clear n0_ n1_ n2_; (try clear hb); (try clear hb2); (try clear hk); (try clear hi)))
          go_meet
          case rel => exact ⟨_, (decide (x4_1 ≤ 1024)), (t182), (t183), (t184), (by first | rfl | (simp; done) | (simp [*]; done)), H', ⟨by have := HK1.out; first | omega | exact Nat.le_refl _⟩, ⟨by repeat (first | (with_reducible first | exact HI0.out | apply IsS59.alloc | apply IsS59.drewN | apply IsS59.drew | apply IsS59.set_0 | apply IsS59.set_1 | apply IsS59.set_2) | exact HI0.out)⟩, ⟨by repeat (first | (with_reducible first | exact HK.out | apply KeepBut.set_ | apply keep_drewN | apply keep_drew | apply keep_alloc) | exact HK.out)⟩, ⟨by repeat (first | (with_reducible first | exact HB.out | apply below_alloc | apply pw_below_drewN | apply below_drew1 | refine below_set ?_ (IsS59.ge HI0.out)) | exact HB.out)⟩⟩
        · rw [if_neg c4] at H
          have c4b0 : decide (0 < t181) = false := decide_eq_false c4
          clear c4
          (first | rw [c4b0] | (simp only [i64_w, i32_w]; rw [c4b0]) | skip)
          have H' := Aside0.mk H
          clear H
          go_wp2_with (first | ((with_reducible refine gate_callee (f := 36) rfl ?_); refine goesL_ (some 7) rfl rfl Try.func36 (by kernel_rfl) rfl #[.pointer (some ⟨g, 0, none⟩)] rfl (by (try simp only [List.map_toArray, List.map_cons, List.map_nil]); first | done | rfl | (simp only [List.length_drop, List.length_take]; rfl)) ?_; (with_reducible refine (splicerref02_Reader_Left.calls g x1000_1 x1001_1 x1002_1 t181 t182 t183 t184 w0 _ ?side1 ?side2 A3.out).mono ?_); (case side1 => repeat (first | (with_reducible first | exact HI0.out | apply IsS59.alloc | apply IsS59.drewN | apply IsS59.drew | apply IsS59.set_0 | apply IsS59.set_1 | apply IsS59.set_2) | exact HI0.out)); (case side2 => repeat (first | (with_reducible first | exact HB.out | apply below_alloc | apply pw_below_drewN | apply below_drew1 | refine below_set ?_ (IsS59.ge HI0.out)) | exact HB.out)); rintro e w6 ⟨rfl, hi, hb, hk⟩; refine ⟨_, rfl, ?_⟩; have n0_ := Aside0.mk (KeepBut.trans (by repeat (first | (with_reducible first | exact HK.out | apply KeepBut.set_ | apply keep_drewN | apply keep_drew | apply keep_alloc) | exact HK.out)) hk (.inl rfl)); have n1_ := Aside0.mk (hb); have n2_ := Aside0.mk (hi); clear HK; clear HB; clear HI0; have HK := n0_; have HB := n1_; have HI0 := n2_; clear n0_ n1_ n2_; (try clear hb); (try clear hb2); (try clear hk); (try clear hi)))
          go_meet
          case rel => exact ⟨_, (false), (t182), (t183), (t184), (by first | rfl | (simp; done) | (simp [*]; done)), H', ⟨by have := HK1.out; first | omega | exact Nat.le_refl _⟩, ⟨by repeat (first | (with_reducible first | exact HI0.out | apply IsS59.alloc | apply IsS59.drewN | apply IsS59.drew | apply IsS59.set_0 | apply IsS59.set_1 | apply IsS59.set_2) | exact HI0.out)⟩, ⟨by repeat (first | (with_reducible first | exact HK.out | apply KeepBut.set_ | apply keep_drewN | apply keep_drew | apply keep_alloc) | exact HK.out)⟩, ⟨by repeat (first | (with_reducible first | exact HB.out | apply below_alloc | apply pw_below_drewN | apply below_drew1 | refine below_set ?_ (IsS59.ge HI0.out)) | exact HB.out)⟩⟩
      case rest =>
        clear HC2
        try clear p2
        try clear c3
        try clear c4
        try clear c4b0
        obtain ⟨kq, x12_1, x1000_1, x1001_1, x1002_1, rfl, HA, HJ1, HI0, HK, HB⟩ := hcut
        cases kq with
        | zero => exact absurd HA.out (by simp [splicerref30_Get.j1])
        | succ kj1 =>
          have H := HA.out
          clear HA
          simp only [splicerref30_Get.j1] at H
          by_cases c7 : x12_1 = true
          · subst c7
            have H1 : ((splicerref02_Reader_Num.f kj1 x1000_1 x1001_1 x1002_1 1).bind fun bt185 => (if bt185.1 < 255 then (if (wrap64 (x4_1 + bt185.1)) > 1024 then (some (0, false, bt185.2.1, bt185.2.2.1, bt185.2.2.2)) else (some (wrap64 (x4_1 + bt185.1), true, bt185.2.1, bt185.2.2.1, bt185.2.2.2))) else (splicerref30_Get.l0 kj1 (wrap64 (x4_1 + bt185.1)) bt185.2.1 bt185.2.2.1 bt185.2.2.2))) = some (r1, r2, r3, r4, r5) := by rw [if_pos rfl] at H; exact H
            clear H
            have H := H1
            clear H1
            replace H := Option.bind_eq_some_iff.mp H
            obtain ⟨⟨t185, t186, t187, t188⟩, A80, H⟩ := H
            replace H : (if t185 < 255 then (if (wrap64 (x4_1 + t185)) > 1024 then (some (0, false, t186, t187, t188)) else (some (wrap64 (x4_1 + t185), true, t186, t187, t188))) else (splicerref30_Get.l0 kj1 (wrap64 (x4_1 + t185)) t186 t187 t188)) = some (r1, r2, r3, r4, r5) := H
            have A8 := Aside0.mk A80
            clear A80
            by_cases c9 : t185 < 255
            · rw [if_pos c9] at H
              have c9b0 : decide (t185 < 255) = true := decide_eq_true c9
              clear c9
              by_cases c10 : (wrap64 (x4_1 + t185)) > 1024
              · rw [if_pos c10] at H
                have c10b0 : decide (1024 < (wrap64 (x4_1 + t185))) = true := decide_eq_true c10
                clear c10
                simp only [Option.some.injEq, Prod.mk.injEq] at H
                obtain ⟨rfl, rfl, rfl, rfl, rfl⟩ := H
                go_wp2_with (first | ((with_reducible refine gate_callee (f := 52) rfl ?_); refine goesL_ (some 14) rfl rfl Try.func52 (by kernel_rfl) rfl #[.pointer (some ⟨g, 0, none⟩), .int .i64 1] rfl (by (try simp only [List.map_toArray, List.map_cons, List.map_nil]); first | done | rfl | (simp only [List.length_drop, List.length_take]; rfl)) ?_; (with_reducible refine (splicerref02_Reader_Num.calls kj1 g x1000_1 x1001_1 x1002_1 1 t185 t186 t187 t188 w0 _ ?side1 ?side2 A8.out).mono ?_); (case side1 => repeat (first | (with_reducible first | exact HI0.out | apply IsS59.alloc | apply IsS59.drewN | apply IsS59.drew | apply IsS59.set_0 | apply IsS59.set_1 | apply IsS59.set_2) | exact HI0.out)); (case side2 => repeat (first | (with_reducible first | exact HB.out | apply below_alloc | apply pw_below_drewN | apply below_drew1 | refine below_set ?_ (IsS59.ge HI0.out)) | exact HB.out)); rintro e w11 ⟨rfl, hi, hb, hk⟩; refine ⟨_, rfl, ?_⟩; have n0_ := Aside0.mk (KeepBut.trans (by repeat (first | (with_reducible first | exact HK.out | apply KeepBut.set_ | apply keep_drewN | apply keep_drew | apply keep_alloc) | exact HK.out)) hk (.inl rfl)); have n1_ := Aside0.mk (hb); have n2_ := Aside0.mk (hi); clear HK; clear HB; clear HI0; have HK := n0_; have HB := n1_; have HI0 := n2_; clear n0_ n1_ n2_; (try clear hb); (try clear hb2); (try clear hk); (try clear hi)))
                go_ret2
                exact ⟨by first | rfl | (simp [errW_none, errW_some] <;> rfl) | (simp [*, errW_none, errW_some] <;> rfl), by repeat (first | (with_reducible first | exact HI0.out | apply IsS59.alloc | apply IsS59.drewN | apply IsS59.drew | apply IsS59.set_0 | apply IsS59.set_1 | apply IsS59.set_2) | exact HI0.out), by repeat (first | (with_reducible first | exact HB.out | apply below_alloc | apply pw_below_drewN | apply below_drew1 | refine below_set ?_ (IsS59.ge HI0.out)) | exact HB.out), by repeat (first | (with_reducible first | exact HK.out | apply KeepBut.set_ | apply keep_drewN | apply keep_drew | apply keep_alloc) | exact HK.out)⟩
              · rw [if_neg c10] at H
                have c10b0 : decide (1024 < (wrap64 (x4_1 + t185))) = false := decide_eq_false c10
                clear c10
                simp only [Option.some.injEq, Prod.mk.injEq] at H
                obtain ⟨rfl, rfl, rfl, rfl, rfl⟩ := H
                go_wp2_with (first | ((with_reducible refine gate_callee (f := 52) rfl ?_); refine goesL_ (some 14) rfl rfl Try.func52 (by kernel_rfl) rfl #[.pointer (some ⟨g, 0, none⟩), .int .i64 1] rfl (by (try simp only [List.map_toArray, List.map_cons, List.map_nil]); first | done | rfl | (simp only [List.length_drop, List.length_take]; rfl)) ?_; (with_reducible refine (splicerref02_Reader_Num.calls kj1 g x1000_1 x1001_1 x1002_1 1 t185 t186 t187 t188 w0 _ ?side1 ?side2 A8.out).mono ?_); (case side1 => repeat (first | (with_reducible first | exact HI0.out | apply IsS59.alloc | apply IsS59.drewN | apply IsS59.drew | apply IsS59.set_0 | apply IsS59.set_1 | apply IsS59.set_2) | exact HI0.out)); (case side2 => repeat (first | (with_reducible first | exact HB.out | apply below_alloc | apply pw_below_drewN | apply below_drew1 | refine below_set ?_ (IsS59.ge HI0.out)) | exact HB.out)); rintro e w12 ⟨rfl, hi, hb, hk⟩; refine ⟨_, rfl, ?_⟩; have n0_ := Aside0.mk (KeepBut.trans (by repeat (first | (with_reducible first | exact HK.out | apply KeepBut.set_ | apply keep_drewN | apply keep_drew | apply keep_alloc) | exact HK.out)) hk (.inl rfl)); have n1_ := Aside0.mk (hb); have n2_ := Aside0.mk (hi); clear HK; clear HB; clear HI0; have HK := n0_; have HB := n1_; have HI0 := n2_; clear n0_ n1_ n2_; (try clear hb); (try clear hb2); (try clear hk); (try clear hi)))
                go_ret2
                exact ⟨by first | rfl | (simp [errW_none, errW_some] <;> rfl) | (simp [*, errW_none, errW_some] <;> rfl), by repeat (first | (with_reducible first | exact HI0.out | apply IsS59.alloc | apply IsS59.drewN | apply IsS59.drew | apply IsS59.set_0 | apply IsS59.set_1 | apply IsS59.set_2) | exact HI0.out), by repeat (first | (with_reducible first | exact HB.out | apply below_alloc | apply pw_below_drewN | apply below_drew1 | refine below_set ?_ (IsS59.ge HI0.out)) | exact HB.out), by repeat (first | (with_reducible first | exact HK.out | apply KeepBut.set_ | apply keep_drewN | apply keep_drew | apply keep_alloc) | exact HK.out)⟩
            · rw [if_neg c9] at H
              have c9b0 : decide (t185 < 255) = false := decide_eq_false c9
              clear c9
              have H' := Aside0.mk H
              clear H
              go_wp2_with (first | ((with_reducible refine gate_callee (f := 52) rfl ?_); refine goesL_ (some 14) rfl rfl Try.func52 (by kernel_rfl) rfl #[.pointer (some ⟨g, 0, none⟩), .int .i64 1] rfl (by (try simp only [List.map_toArray, List.map_cons, List.map_nil]); first | done | rfl | (simp only [List.length_drop, List.length_take]; rfl)) ?_; (with_reducible refine (splicerref02_Reader_Num.calls kj1 g x1000_1 x1001_1 x1002_1 1 t185 t186 t187 t188 w0 _ ?side1 ?side2 A8.out).mono ?_); (case side1 => repeat (first | (with_reducible first | exact HI0.out | apply IsS59.alloc | apply IsS59.drewN | apply IsS59.drew | apply IsS59.set_0 | apply IsS59.set_1 | apply IsS59.set_2) | exact HI0.out)); (case side2 => repeat (first | (with_reducible first | exact HB.out | apply below_alloc | apply pw_below_drewN | apply below_drew1 | refine below_set ?_ (IsS59.ge HI0.out)) | exact HB.out)); rintro e w13 ⟨rfl, hi, hb, hk⟩; refine ⟨_, rfl, ?_⟩; have n0_ := Aside0.mk (KeepBut.trans (by repeat (first | (with_reducible first | exact HK.out | apply KeepBut.set_ | apply keep_drewN | apply keep_drew | apply keep_alloc) | exact HK.out)) hk (.inl rfl)); have n1_ := Aside0.mk (hb); have n2_ := Aside0.mk (hi); clear HK; clear HB; clear HI0; have HK := n0_; have HB := n1_; have HI0 := n2_; clear n0_ n1_ n2_; (try clear hb); (try clear hb2); (try clear hk); (try clear hi)))
              go_roundg kj1
              case measure => have := HK1.out; have := HJ1.out; omega
              case rel => exact ⟨(wrap64 (x4_1 + t185)), (t186), (t187), (t188), (by first | rfl | (simp; done) | (simp [*]; done)), H', ⟨by have := HK1.out; have := HJ1.out; omega⟩, ⟨by repeat (first | (with_reducible first | exact HI0.out | apply IsS59.alloc | apply IsS59.drewN | apply IsS59.drew | apply IsS59.set_0 | apply IsS59.set_1 | apply IsS59.set_2) | exact HI0.out)⟩, ⟨by repeat (first | (with_reducible first | exact HK.out | apply KeepBut.set_ | apply keep_drewN | apply keep_drew | apply keep_alloc) | exact HK.out)⟩, ⟨by repeat (first | (with_reducible first | exact HB.out | apply below_alloc | apply pw_below_drewN | apply below_drew1 | refine below_set ?_ (IsS59.ge HI0.out)) | exact HB.out)⟩⟩
          · replace c7 := Bool.eq_false_iff.mpr c7
            subst c7
            have H1 : (some (0, false, x1000_1, x1001_1, x1002_1)) = some (r1, r2, r3, r4, r5) := by rw [if_neg (show ¬ (false = true) by decide)] at H; exact H
            clear H
            have H := H1
            clear H1
            simp only [Option.some.injEq, Prod.mk.injEq] at H
            obtain ⟨rfl, rfl, rfl, rfl, rfl⟩ := H
            go_wp2
            go_ret2
            exact ⟨by first | rfl | (simp [errW_none, errW_some] <;> rfl) | (simp [*, errW_none, errW_some] <;> rfl), by repeat (first | (with_reducible first | exact HI0.out | apply IsS59.alloc | apply IsS59.drewN | apply IsS59.drew | apply IsS59.set_0 | apply IsS59.set_1 | apply IsS59.set_2) | exact HI0.out), by repeat (first | (with_reducible first | exact HB.out | apply below_alloc | apply pw_below_drewN | apply below_drew1 | refine below_set ?_ (IsS59.ge HI0.out)) | exact HB.out), by repeat (first | (with_reducible first | exact HK.out | apply KeepBut.set_ | apply keep_drewN | apply keep_drew | apply keep_alloc) | exact HK.out)⟩

/-! ### splicerlaw30_LaceGets: function 9 -/
section
theorem octr_ex0 (s : ByteArray) (a n : Nat) (h : a + n ≤ s.size) : (s.extract a s.size).extract 0 n = s.extract a (a + n) := by
  apply ByteArray.ext
  simp only [ByteArray.data_extract, Array.extract_extract, Nat.add_zero]
  congr 1
  omega
theorem octr_ex1 (s : ByteArray) (a n : Nat) (h : a + n ≤ s.size) : (s.extract a s.size).extract n (s.extract a s.size).size = s.extract (a + n) s.size := by
  apply ByteArray.ext
  simp only [ByteArray.data_extract, Array.extract_extract, ByteArray.size_extract]
  congr 1
  omega
theorem octr_text (s : ByteArray) (a : Nat) (br : Bool) (n : Int) (ha : a ≤ s.size) (hs : s.size ≤ 300) (hn : n ≤ 9223372036854775807) :
    ∃ t a' br', a' ≤ s.size ∧ octet_Reader_Text.f (s.extract a s.size) s.size (!br) n = some (t, s.extract a' s.size, (s.size : Int), !br') ∧ splicerref02_Reader_Text.f s a br n = some (t, s, (a' : Int), br') := by
  unfold octet_Reader_Text.f octet_Reader_Bad.f splicerref02_Reader_Text.f
  rw [Option.bind_some]
  cases br with
  | true => exact ⟨_, a, true, ha, by rw [if_pos (by rfl)], by rw [if_pos rfl]⟩
  | false =>
    simp only [Bool.not_false, Bool.not_true, if_neg (show ¬ (false = true) by decide)]
    have hsz : (s.extract a s.size).size = s.size - a := by rw [ByteArray.size_extract]; omega
    have hw : wrap64 ((s.size : Int) - a) = ((s.size - a : Nat) : Int) := by unfold wrap64; omega
    by_cases c1 : n < 0
    · exact ⟨⟨#[]⟩, a, true, ha, by rw [if_pos c1]; rfl, by rw [if_pos c1]⟩
    · rw [if_neg c1, if_neg c1]
      by_cases c2 : n > ((s.size - a : Nat) : Int)
      · exact ⟨⟨#[]⟩, a, true, ha, by simp only [hsz]; rw [if_pos c2]; rfl, by rw [hw, if_pos c2]⟩
      · obtain ⟨n, rfl⟩ := Int.eq_ofNat_of_zero_le (show 0 ≤ n by omega)
        have e1 : wrap64 ((a : Int) + n) = ((a + n : Nat) : Int) := by unfold wrap64; omega
        have e2 : wrap64 (((a + n : Nat) : Int) - n) = (a : Int) := by unfold wrap64; omega
        refine ⟨s.extract a (a + n), a + n, false, by omega, ?_, ?_⟩
        · simp only [hsz]
          rw [if_neg c2, if_pos (by omega), if_pos (by omega), Int.toNat_natCast, octr_ex0 s a n (by omega)]
          have := octr_ex1 s a n (by omega)
          rw [hsz] at this
          rw [this]; rfl
        · rw [hw, if_neg c2, e1, e2, if_pos (by omega), if_pos (by omega), if_pos (by omega), Int.toNat_natCast, Int.toNat_natCast]
theorem octr_w (x y : Nat) (hx : x < 281474976710656) (hy : y < 256) : wrap64 (wrap64 ((x : Int) * 256) + wrap64 (y : Int)) = ((x * 256 + y : Nat) : Int) := by
  have e1 : wrap64 ((x : Int) * 256) = (x : Int) * 256 := by unfold wrap64; omega
  have e2 : wrap64 (y : Int) = (y : Int) := by unfold wrap64; omega
  rw [e1, e2]
  unfold wrap64; omega
theorem octr_bt (t : ByteArray) (i : Nat) (h : i < t.data.toList.length) : bt t i = ((t.data.toList[i]).toNat : Int) := by
  have h' : i < t.size := by simpa using h
  have := bt_at t (i : Int) (by rw [Int.toNat_natCast]; exact h')
  rw [← this]
  rfl
theorem octr_l (t : ByteArray) (x1 : ByteArray) (x2 : Int) (x3 : Bool) (ht : t.size ≤ 7) (d : Nat) : ∀ i fuel, i + d = t.size → d < fuel → splicerref02_Reader_Num.l0 fuel t ((beVal (t.data.toList.take i) : Nat) : Int) (i : Int) x1 x2 x3 = some (((beVal t.data.toList : Nat) : Int), x1, x2, x3) := by
  induction d with
  | zero =>
    intro i fuel hi hf
    obtain ⟨fuel, rfl⟩ : ∃ m, fuel = m + 1 := ⟨fuel - 1, by omega⟩
    simp only [splicerref02_Reader_Num.l0]
    rw [if_neg (by omega), List.take_of_length_le (by simp; omega)]
  | succ d ih =>
    intro i fuel hi hf
    obtain ⟨fuel, rfl⟩ : ∃ m, fuel = m + 1 := ⟨fuel - 1, by omega⟩
    simp only [splicerref02_Reader_Num.l0]
    have hlt : i < t.data.toList.length := by simp; omega
    have h6 : beVal (t.data.toList.take i) < 281474976710656 := beVal_lt7 _ (by rw [List.length_take]; omega)
    have hb := octr_bt t i hlt
    have hbl := UInt8.toNat_lt (t.data.toList[i])
    have e : wrap64 (wrap64 (((beVal (t.data.toList.take i) : Nat) : Int) * 256) + wrap64 (bt t i)) = ((beVal (t.data.toList.take (i + 1)) : Nat) : Int) := by
      rw [List.take_succ_eq_append_getElem hlt, beVal_snoc, hb]
      exact octr_w _ _ h6 hbl
    clear h6 hb hbl
    rw [if_pos (by omega), if_pos (by omega), e, show wrap64 ((i : Int) + 1) = ((i + 1 : Nat) : Int) by unfold wrap64; omega]
    exact ih (i + 1) fuel (by omega) (by omega)
theorem octr_num (s : ByteArray) (a : Nat) (br : Bool) (n : Int) (ha : a ≤ s.size) (hs : s.size ≤ 300) (hn : n ≤ 9223372036854775807) :
    ∃ x a' br', a' ≤ s.size ∧ octet_Reader_Num.f (s.extract a s.size) s.size (!br) n = some (x, s.extract a' s.size, (s.size : Int), !br') ∧ splicerref02_Reader_Num.f 40 s a br n = some (x, s, (a' : Int), br') := by
  unfold octet_Reader_Num.f splicerref02_Reader_Num.f
  by_cases hbad : n < 1 ∨ 7 < n
  · refine ⟨0, a, true, ha, ?_, ?_⟩
    · rw [if_pos hbad]
      cases br <;> rfl
    · have e : splicerref02_Reader_Num.j0 40 n true s a br = some (0, s, (a : Int), true) := by
        simp only [splicerref02_Reader_Num.j0, splicerref02_Reader_Num.j1, if_true, splicerref02_Reader_Text.f, Option.bind_some]
        rfl
      by_cases c1 : n < 1
      · rw [if_pos c1, e]
      · rw [if_neg c1, decide_eq_true (by omega), e]
  · obtain ⟨t, a', br', ha', h1, h2⟩ := octr_text s a br n ha hs hn
    have hts := oct_text_size _ _ _ _ _ _ _ _ h1
    refine ⟨((beVal t.data.toList : Nat) : Int), a', br', ha', ?_, ?_⟩
    · rw [if_neg hbad, h1]; rfl
    · rw [if_neg (by omega), decide_eq_false (by omega)]
      simp only [splicerref02_Reader_Num.j0, splicerref02_Reader_Num.j1]
      rw [if_neg (by decide), h2, Option.bind_some]
      exact octr_l t s a' br' (by omega) t.size 0 38 (by omega) (by omega)

theorem octr_keepR {w0 W W1 : World} {g g2 : Nat} {a : ByteArray} {b : Int} {c : Bool} (h : IsS59 w0 W g2 a b c) (hk : KeepBut W W1 g none) (hne : g2 ≠ g) : IsS59 w0 W1 g2 a b c := ⟨by rw [hk.2 g2 (blk_lt h.1) hne (by simp)]; exact h.1, h.2⟩
theorem octr_keepO {w0 W W1 : World} {g g2 : Nat} {a : ByteArray} {b : Int} {c : Bool} (h : IsS95 w0 W g a b c) (hk : KeepBut W W1 g2 none) (hne : g ≠ g2) : IsS95 w0 W1 g a b c := ⟨by rw [hk.2 g (blk_lt h.1) hne (by simp)]; exact h.1, h.2⟩
theorem octr_left (s : ByteArray) (a : Nat) (br : Bool) (ha : a ≤ s.size) (hs : s.size ≤ 300) : ∃ v, octet_Reader_Left.f (s.extract a s.size) s.size (!br) = some (v, s.extract a s.size, (s.size : Int), !br) ∧ splicerref02_Reader_Left.f s a br = some (v, s, (a : Int), br) := by
  unfold octet_Reader_Left.f octet_Reader_Bad.f splicerref02_Reader_Left.f
  have e : wrap64 ((s.size : Int) - a) = ((s.size - a : Nat) : Int) := by unfold wrap64; omega
  cases br with
  | true => exact ⟨0, rfl, rfl⟩
  | false =>
    refine ⟨((s.size - a : Nat) : Int), ?_, ?_⟩
    · simp only [Option.bind_some, Bool.not_false, Bool.not_true, if_neg (show ¬ (false = true) by decide)]
      rw [ByteArray.size_extract, Nat.min_self]
    · rw [if_neg (by decide), e]

theorem lg_drop (s : ByteArray) (a : Nat) : s.extract a s.size = ⟨(s.data.toList.drop a).toArray⟩ := by
  apply ByteArray.ext
  apply Array.toList_inj.1
  simp only [ByteArray.data_extract, Array.toList_extract, List.extract_eq_take_drop]
  refine (List.take_of_length_le ?_)
  rw [List.length_drop]; simp
theorem lg_read1 (b : UInt8) (r : List UInt8) (sz : Int) : octet_Reader_Num.f ⟨(b :: r).toArray⟩ sz true 1 = some ((b.toNat : Int), ⟨r.toArray⟩, sz, true) := by
  unfold octet_Reader_Num.f octet_Reader_Text.f octet_Reader_Bad.f
  have sizeB : ∀ L : List UInt8, (⟨L.toArray⟩ : ByteArray).size = L.length := fun L => by show L.toArray.size = _; simp
  have e1 : (⟨(b :: r).toArray⟩ : ByteArray).extract 0 1 = ⟨[b].toArray⟩ := by apply ByteArray.ext; simp
  have e2 : (⟨(b :: r).toArray⟩ : ByteArray).extract 1 (⟨(b :: r).toArray⟩ : ByteArray).size = ⟨r.toArray⟩ := by
    rw [sizeB]; apply ByteArray.ext; simp
  have hs := sizeB (b :: r)
  rw [List.length_cons] at hs
  simp only [Option.bind_some, if_neg (show ¬ ((1 : Int) < 1 ∨ 7 < (1 : Int)) by omega)]
  rw [if_neg (by decide), if_neg (by omega), if_neg (by rw [hs]; omega), if_pos (by omega), if_pos (by rw [hs]; omega)]
  simp only [Option.bind_some, show ((1 : Int)).toNat = 1 from rfl]
  rw [e1, e2]
  show some (((beVal [b] : Nat) : Int), _, _, _) = _
  simp [beVal]
theorem lg_num (s : ByteArray) (a : Nat) (ha : a < s.size) (hs : s.size ≤ 200) : ∃ b : Nat, b < 256 ∧ octet_Reader_Num.f (s.extract a s.size) s.size true 1 = some ((b : Int), s.extract (a + 1) s.size, (s.size : Int), true) ∧ splicerref02_Reader_Num.f 40 s a false 1 = some ((b : Int), s, ((a + 1 : Nat) : Int), false) := by
  obtain ⟨x, a', br', ha', h1, h2⟩ := octr_num s a false 1 (by omega) (by omega) (by omega)
  have hlt : a < s.data.toList.length := by simpa using ha
  have h3 := lg_read1 s.data.toList[a] (s.data.toList.drop (a + 1)) s.size
  rw [← List.drop_eq_getElem_cons hlt, ← lg_drop, ← lg_drop] at h3
  have h4 := h1.symm.trans h3
  simp only [Option.some.injEq, Prod.mk.injEq] at h4
  obtain ⟨e1, e2, _, e4⟩ := h4
  have e5 := congrArg ByteArray.size e2
  rw [ByteArray.size_extract, ByteArray.size_extract] at e5
  have e6 : a' = a + 1 := by omega
  have e7 : br' = false := by cases br' with
    | false => rfl
    | true => cases e4
  subst e6 e7
  refine ⟨s.data.toList[a].toNat, UInt8.toNat_lt _, ?_, ?_⟩
  · rw [h3]
  · rw [h2, e1]
theorem lg_pair (s : ByteArray) (hs : s.size ≤ 200) : ∀ (k n a : Nat), 1280 ≤ n + 255 * k → n ≤ 1279 → a ≤ s.size →
    (∃ x y z x' y' z', lace_Get.l k n (s.extract a s.size) s.size true = some (0, false, x, y, z) ∧ Ev (fun K => splicerref30_Get.l0 K n s a false) (0, false, x', y', z')) ∨
    (∃ m a' : Nat, a < a' ∧ a' ≤ s.size ∧ lace_Get.l k n (s.extract a s.size) s.size true = some ((m : Int), true, s.extract a' s.size, (s.size : Int), true) ∧ Ev (fun K => splicerref30_Get.l0 K n s a false) ((m : Int), true, s, (a' : Int), false)) := by
  intro k
  induction k with
  | zero => intro n a h1 h2 ha; omega
  | succ k ih =>
    intro n a h1 h2 ha
    have hleft : splicerref02_Reader_Left.f s a false = some (((s.size - a : Nat) : Int), s, (a : Int), false) := by
      unfold splicerref02_Reader_Left.f
      rw [if_neg (by decide), show wrap64 ((s.size : Int) - a) = ((s.size - a : Nat) : Int) by unfold wrap64; omega]
    have hno : ∀ {r}, Ev (fun K => splicerref30_Get.j1 K (n : Int) false s (a : Int) false) r → r = (0, false, s, (a : Int), false) → True := fun _ _ => trivial
    have hoff : Ev (fun K => splicerref30_Get.j1 K (n : Int) false s (a : Int) false) (0, false, s, (a : Int), false) := by
      refine Ev.step (f := fun _ => some (0, false, s, (a : Int), false)) (fun K => ?_) (Ev.now _)
      simp only [splicerref30_Get.j1]; rw [if_neg (by decide)]
    by_cases hn : n ≤ 1024
    · by_cases hlt : a < s.size
      · obtain ⟨b, hb, hN, hR⟩ := lg_num s a hlt hs
        have hR' : Ev (fun K => splicerref02_Reader_Num.f K s a false 1) ((b : Int), s, ((a + 1 : Nat) : Int), false) := Ev.of (fun K => splicerref02_Reader_Num.mono _ _ _ _ K) hR
        have ew : wrap64 ((n : Int) + (b : Int)) = ((n + b : Nat) : Int) := by unfold wrap64; omega
        have hgo : lace_Get.l (k + 1) n (s.extract a s.size) s.size true = (if (b : Int) < 255 then (if ((n + b : Nat) : Int) > 1024 then some (0, false, s.extract (a + 1) s.size, (s.size : Int), true) else some (((n + b : Nat) : Int), true, s.extract (a + 1) s.size, (s.size : Int), true)) else lace_Get.l k ((n + b : Nat) : Int) (s.extract (a + 1) s.size) s.size true) := by
          simp only [lace_Get.l]
          rw [if_pos (by omega), hN]
          simp only [Option.bind_some, ew]
          rw [if_pos trivial]
        have hev : ∀ r, Ev (fun K => if (b : Int) < 255 then (if ((n + b : Nat) : Int) > 1024 then some (0, false, s, ((a + 1 : Nat) : Int), false) else some (((n + b : Nat) : Int), true, s, ((a + 1 : Nat) : Int), false)) else splicerref30_Get.l0 K ((n + b : Nat) : Int) s ((a + 1 : Nat) : Int) false) r → Ev (fun K => splicerref30_Get.l0 K n s a false) r := by
          intro r hr
          refine Ev.step (f := fun K => splicerref30_Get.j1 K (n : Int) true s (a : Int) false) (fun K => ?_) ?_
          · simp only [splicerref30_Get.l0]
            rw [hleft]
            simp only [Option.bind_some]
            rw [if_pos (by omega), decide_eq_true (by omega)]
          · refine Ev.step (f := fun K => (splicerref02_Reader_Num.f K s (a : Int) false 1).bind fun bt128 => (if bt128.1 < 255 then (if (wrap64 ((n : Int) + bt128.1)) > 1024 then (some (0, false, bt128.2.1, bt128.2.2.1, bt128.2.2.2)) else (some (wrap64 ((n : Int) + bt128.1), true, bt128.2.1, bt128.2.2.1, bt128.2.2.2))) else (splicerref30_Get.l0 K (wrap64 ((n : Int) + bt128.1)) bt128.2.1 bt128.2.2.1 bt128.2.2.2))) (fun K => ?_) ?_
            · simp only [splicerref30_Get.j1]; rw [if_pos trivial]
            · refine Ev.bind hR' ?_
              simp only [ew]
              exact hr
        rw [hgo]
        by_cases hb5 : (b : Int) < 255
        · by_cases hn5 : ((n + b : Nat) : Int) > 1024
          · refine .inl ⟨s.extract (a + 1) s.size, (s.size : Int), true, s, ((a + 1 : Nat) : Int), false, by rw [if_pos hb5, if_pos hn5], hev _ ?_⟩
            simp only [if_pos hb5, if_pos hn5]; exact Ev.now _
          · refine .inr ⟨n + b, a + 1, by omega, by omega, by rw [if_pos hb5, if_neg hn5], hev _ ?_⟩
            simp only [if_pos hb5, if_neg hn5]; exact Ev.now _
        · rw [if_neg hb5]
          have hev' : ∀ r, Ev (fun K => splicerref30_Get.l0 K ((n + b : Nat) : Int) s ((a + 1 : Nat) : Int) false) r → Ev (fun K => splicerref30_Get.l0 K n s a false) r := by
            intro r hr
            refine hev r ?_
            simp only [if_neg hb5]; exact hr
          rcases ih (n + b) (a + 1) (by omega) (by omega) (by omega) with ⟨x, y, z, x', y', z', e1, e2⟩ | ⟨m, a', g1, g2, e1, e2⟩
          · exact .inl ⟨x, y, z, x', y', z', e1, hev' _ e2⟩
          · exact .inr ⟨m, a', by omega, g2, e1, hev' _ e2⟩
      · obtain rfl : a = s.size := by omega
        have hx : s.extract s.size s.size = ⟨#[]⟩ := by rw [lg_drop, List.drop_eq_nil_of_le (by simp)]
        have hN : octet_Reader_Num.f (⟨#[]⟩ : ByteArray) s.size true 1 = some (0, ⟨#[]⟩, (s.size : Int), false) := rfl
        refine .inl ⟨⟨#[]⟩, (s.size : Int), false, s, ((s.size : Nat) : Int), false, ?_, ?_⟩
        · simp only [lace_Get.l]
          rw [if_pos (by omega), hx, hN]
          simp only [Option.bind_some]
          rw [if_neg Bool.false_ne_true]
        · refine Ev.step (f := fun K => splicerref30_Get.j1 K (n : Int) false s ((s.size : Nat) : Int) false) (fun K => ?_) hoff
          simp only [splicerref30_Get.l0]
          rw [hleft]
          simp only [Option.bind_some]
          rw [if_neg (by omega)]
    · refine .inl ⟨s.extract a s.size, (s.size : Int), true, s, (a : Int), false, ?_, ?_⟩
      · simp only [lace_Get.l]
        rw [if_neg (by omega)]
      · refine Ev.step (f := fun K => splicerref30_Get.j1 K (n : Int) false s (a : Int) false) (fun K => ?_) hoff
        simp only [splicerref30_Get.l0]
        rw [hleft]
        simp only [Option.bind_some]
        rw [decide_eq_false (show ¬ (n : Int) ≤ 1024 by omega)]
        split <;> rfl
theorem lg_get (s : ByteArray) (hs : s.size ≤ 200) (a : Nat) (ha : a ≤ s.size) :
    (∃ K x y z x' y' z', lace_Get.f (s.extract a s.size) s.size true = some (0, false, x, y, z) ∧ splicerref30_Get.f K s a false = some (0, false, x', y', z')) ∨
    (∃ K, ∃ m a' : Nat, a < a' ∧ a' ≤ s.size ∧ lace_Get.f (s.extract a s.size) s.size true = some ((m : Int), true, s.extract a' s.size, (s.size : Int), true) ∧ splicerref30_Get.f K s a false = some ((m : Int), true, s, (a' : Int), false)) := by
  rcases lg_pair s hs 12 0 a (by omega) (by omega) ha with ⟨x, y, z, x', y', z', e1, e2⟩ | ⟨m, a', g1, g2, e1, e2⟩
  · obtain ⟨K, hK⟩ := e2.rounds
    exact .inl ⟨K, x, y, z, x', y', z', e1, hK⟩
  · obtain ⟨K, hK⟩ := e2.rounds
    exact .inr ⟨K, m, a', g1, g2, e1, hK⟩
theorem lg_awake : splicerlaw30_awake.f = some true := by decide +kernel
set_option maxHeartbeats 2000000 in
set_option maxRecDepth 100000 in
theorem lg_run (s : ByteArray) (w : World) (hs : s.size ≤ 200) :
    Calls Try.prog 9 #[.string s] w fun e w' => e = .returned (.bool true) ∧ Below w.heap.size w w' := by
  have hd2 : decide (200 < (s.size : Int)) = false := by rw [decide_eq_false_iff_not]; omega
  go_enter Try.func9, Try.ntmps9
  go_wp2_with (go_at_call 32; refine (octet_New.calls s _ _ _ w _ (Below.refl _ _) rfl).mono ?_; rintro e w1 ⟨g, rfl, hI1, hB1, hb1⟩)
  obtain ⟨g2, hg2⟩ : ∃ g2, g2 = w1.heap.size := ⟨_, rfl⟩
  have hJ1 := IsS59.new w w1 s 0 false hB1
  have hI2 := hI1.alloc (.cells #[.string s, .int .i64 0, .bool false] 59)
  have hB2 := below_alloc hB1 (.cells #[.string s, .int .i64 0, .bool false] 59)
  have hne : g ≠ g2 := by have := hI1.lt; omega
  have he0 : s.extract 0 s.size = s := by simp
  rw [← hg2] at hJ1
  rw [← hg2]
  have HG2 := Lib.hid hg2
  clear hg2 hI1 hB1 hb1
  go_loopw [5] (fun v wr => ∃ (i a : Nat), i ≤ a ∧ v = .int .i64 i ∧ a ≤ s.size ∧ IsS95 w wr g (s.extract a s.size) s.size true ∧ IsS59 w wr g2 s a false ∧ Below w.heap.size w wr) (fun v _ => 300 - (intOf v).toNat)
  case atStart => exact ⟨0, 0, Nat.zero_le _, rfl, Nat.zero_le _, by rw [he0]; exact hI2, hJ1, hB2⟩
  case round =>
    clear hI2 hJ1 hB2 he0
    obtain ⟨i, a, hi, rfl, ha, hI, hJ, hB⟩ := hrel
    have hc : decide ((i : Int) < 201) = true := decide_eq_true (by omega)
    have ew : wrap64 ((i : Int) + 1) = ((i + 1 : Nat) : Int) := by unfold wrap64; omega
    rcases lg_get s hs a ha with ⟨K, x, y, z, x', y', z', e1, e2⟩ | ⟨K, m, a', g1, g2', e1, e2⟩
    · have E1 := Aside0.mk e1
      have E2 := Aside0.mk e2
      clear e1 e2
      go_wp2_with (first
        | (go_at_call 33; refine (lace_Get.calls g _ _ _ _ _ _ _ _ w _ hI hB E1.out).mono ?_; rintro e w3 ⟨rfl, hI3, hB3, hk3⟩)
        | (go_at_call 34; refine (splicerref30_Get.calls K g2 _ _ _ _ _ _ _ _ w _ (octr_keepR hJ hk3 hne.symm) hB3 E2.out).mono ?_; rintro e w4 ⟨rfl, hJ4, hB4, hk4⟩)
        | (go_at_call 31; refine (splicerlaw30_awake.calls true _ lg_awake).mono ?_; rintro e w5 ⟨rfl, hb5⟩))
      go_ret
      exact ⟨rfl, below_step hB4 hb5⟩
    · obtain ⟨v1, hL1, hL2⟩ := octr_left s a' false g2' (by omega)
      have E1 := Aside0.mk e1
      have E2 := Aside0.mk e2
      have L1 := Aside0.mk hL1
      have L2 := Aside0.mk hL2
      clear e1 e2 hL1 hL2
      go_wp2_with (first
        | (go_at_call 33; refine (lace_Get.calls g _ _ _ _ _ _ _ _ w _ hI hB E1.out).mono ?_; rintro e w3 ⟨rfl, hI3, hB3, hk3⟩)
        | (go_at_call 34; refine (splicerref30_Get.calls K g2 _ _ _ _ _ _ _ _ w _ (octr_keepR hJ hk3 hne.symm) hB3 E2.out).mono ?_; rintro e w4 ⟨rfl, hJ4, hB4, hk4⟩; have hI4 := octr_keepO hI3 hk4 hne)
        | (go_at_call 35; refine (octet_Reader_Left.calls g _ _ _ _ _ _ _ w _ hI4 hB4 L1.out).mono ?_; rintro e w5 ⟨rfl, hI5, hB5, hk5⟩; have hJ5 := octr_keepR hJ4 hk5 hne.symm)
        | (go_at_call 36; refine (splicerref02_Reader_Left.calls g2 _ _ _ _ _ _ _ w _ hJ5 hB5 L2.out).mono ?_; rintro e w6 ⟨rfl, hJ6, hB6, hk6⟩; have hI6 := octr_keepO hI5 hk6 hne))
      go_roundw
      case rel => exact ⟨i + 1, a', by omega, by first | rw [ew] | go_num, g2', hI6, hJ6, hB6⟩
      case measure => simp only [intOf]; (try rw [ew]); omega
set_option maxHeartbeats 1000000 in
set_option maxRecDepth 100000 in
theorem lg_long (s : ByteArray) (w : World) (hn : 200 < s.size) :
    Calls Try.prog 9 #[.string s] w fun e w' => e = .returned (.bool true) ∧ Below w.heap.size w w' := by
  have hd : decide (200 < (s.size : Int)) = true := decide_eq_true (by omega)
  go_enter Try.func9, Try.ntmps9
  go_wp2_with (go_at_call 31; refine (splicerlaw30_awake.calls true _ lg_awake).mono ?_; rintro e w1 ⟨rfl, hb⟩)
  go_ret
  exact ⟨rfl, hb⟩
def splicerlaw30_LaceGets.Pure : Prop := True
theorem splicerlaw30_LaceGets.walk (_P : splicerlaw30_LaceGets.Pure) (a0 : ByteArray) (w : World) (w0 : a0.size ≤ 140737488351232) :
    Calls Try.prog 9 #[.string a0] w fun e w' => e = .returned (.bool true) ∧ Below w.heap.size w w' := by
  by_cases h : a0.size ≤ 200
  · exact lg_run a0 w h
  · exact lg_long a0 w (by omega)
end

end Go.Proofs.Ythdlikiakegekaa.S
