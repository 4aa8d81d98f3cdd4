-- Written for this claim by a program of the session (myprint.py), out of the translation's own print; Lean checks it.
import Derived.Test.YtagffnckmlfcnaaMs0
import Derived.Test.YtagffnckmlfcnaaMs2
namespace Go.Proofs.Ytagffnckmlfcnaa.S
open Go.RowKit Go.Proofs.YtagffnckmlfcnaaW.PrintWords Go.Proofs.YtagffnckmlfcnaaW.PrintLast Go.Proofs.YtagffnckmlfcnaaW.PrintMore
attribute [local go_sem] max2_int min2_int max_two min_two max_three min_three max_four min_four   -- for this text's walks alone
set_option linter.unusedVariables false
set_option linter.unusedSimpArgs false

/-! ### meter_loud: function 54 -/
section

def mabs_within.l0 : Nat → Int → List Int → Int → Int → Option (Bool)
  | 0, _, _, _, _ => none
  | k + 1, x0, x7, x8, x9 => if x9 < x8 then (if 0 ≤ x9 then (if x9 < (x7.length : Int) then (if (rd x7 x9) < (wrap64 (-x0)) then (some false) else (if (rd x7 x9) > x0 then (some false) else (mabs_within.l0 k x0 x7 x8 (wrap64 (x9 + 1))))) else (none)) else (none)) else (some true)
def mabs_within.f (k : Nat) (a0 : Int) (l1 : List Int) : Option (Bool) := mabs_within.l0 k a0 l1 (l1.length : Int) 0
theorem mabs_within.mono_l : ∀ k, (∀ y0 y1 y2 y3, LeO (mabs_within.l0 k y0 y1 y2 y3) (mabs_within.l0 (k + 1) y0 y1 y2 y3))
  | 0 => fun _ _ _ _ r h => by simp [mabs_within.l0] at h
  | k + 1 => by
    have ih0 := mabs_within.mono_l k
    · intro y0 y1 y2 y3
      unfold mabs_within.l0
      repeat' first
      | (with_reducible exact ih0 _ _ _ _)
      | (with_reducible exact LeO.refl _)
      | (with_reducible exact LeO.none _)
      | (with_reducible refine LeO.ite ?_ ?_)
      | (with_reducible refine LeO.bind ?_ (fun _ => ?_))
      | exact ih0 _ _ _ _
      | exact LeO.none _
      | refine LeO.ite ?_ ?_
      | refine LeO.bind ?_ (fun _ => ?_)
theorem mabs_within.mono : ∀ a0 a1 k, LeO (mabs_within.f k a0 a1) (mabs_within.f (k + 1) a0 a1) := by
  intro a0 a1 k
  have ih0 := mabs_within.mono_l k
  unfold mabs_within.f
  repeat' first
      | (with_reducible exact ih0 _ _ _ _)
      | (with_reducible exact LeO.refl _)
      | (with_reducible exact LeO.none _)
      | (with_reducible refine LeO.ite ?_ ?_)
      | (with_reducible refine LeO.bind ?_ (fun _ => ?_))
      | exact ih0 _ _ _ _
      | exact LeO.none _
      | refine LeO.ite ?_ ?_
      | refine LeO.bind ?_ (fun _ => ?_)
set_option maxHeartbeats 8000000 in
set_option maxRecDepth 100000 in
theorem mabs_within.calls (k : Nat) (a0 : Int) (A1 : Option Addr) (c1 : Nat) (l1 : List Int) (r : Bool) (w : World) (hr1 : Kd.C (Kd.int .i64) w A1 l1.length l1) (hc1 : l1.length ≤ c1) (h : mabs_within.f k a0 l1 = some r) :
    Calls Try.prog 116 #[.int .i64 a0, .slice A1 l1.length c1] w fun e w' => e = .returned (.bool r) ∧ Drawn0 w w' := by
  have HR1 := Aside0.mk hr1
  have HC1 := Aside0.mk hc1
  clear hr1 hc1
  have H : (mabs_within.l0 k a0 l1 (l1.length : Int) 0) = some r := h
  clear h
  have H' := Aside0.mk H
  clear H
  go_enter Try.func116, Try.ntmps116
  go_wp2
  go_loopg [9] k (fun kq v9 w' => ∃ (x9_1 : Int), v9 = .int .i64 x9_1 ∧ Aside0 (mabs_within.l0 kq a0 l1 (l1.length : Int) x9_1 = some r) ∧ Aside0 (kq ≤ k) ∧ Drawn0 w w')
  case atStart => exact ⟨(0), (by first | rfl | (simp; done) | (simp [*]; done)), H', ⟨Nat.le_refl _⟩, by repeat (first | exact Drawn0.refl _ | apply Drawn0.step)⟩
  case round =>
    clear H'
    try clear c1
    try clear p2
    obtain ⟨x9_1, rfl, HA, HK1, ⟨m1, rfl⟩⟩ := hrel
    cases gk with
    | zero => exact absurd HA.out (by simp [mabs_within.l0])
    | succ k1 =>
      have H := HA.out
      clear HA
      simp only [mabs_within.l0] at H
      by_cases c3 : x9_1 < (l1.length : Int)
      · rw [if_pos c3] at H
        have c3b0 : decide (x9_1 < (l1.length : Int)) = true := decide_eq_true c3
        clear c3
        by_cases c4 : 0 ≤ x9_1
        · rw [if_pos c4] at H
          have c4b0 : decide (0 ≤ x9_1) = true := decide_eq_true c4
          clear c4
          by_cases c5 : x9_1 < (l1.length : Int)
          · rw [if_pos c5] at H
            have c5b0 : decide (x9_1 < (l1.length : Int)) = true := decide_eq_true c5
            clear c5
            by_cases c6 : (rd l1 x9_1) < (wrap64 (-a0))
            · rw [if_pos c6] at H
              have c6b0 : decide ((rd l1 x9_1) < (wrap64 (-a0))) = true := decide_eq_true c6
              clear c6
              obtain rfl := Option.some.inj H
              have p114 : 0 ≤ (x9_1 : Int) := of_decide_eq_true (by first | (with_reducible assumption) | assumption)
              have q114 : x9_1 < (l1.length : Int) := of_decide_eq_true (by first | (with_reducible assumption) | assumption)
              obtain ⟨ad114, e114, hx114_0⟩ := Kd.at_int HR1.out x9_1 p114 q114
              cases e114
              replace p114 := eq_true p114
              replace q114 := eq_true q114
              go_wp2
              go_ret
              exact ⟨by first | rfl | (simp; done) | (simp [*]; done), by repeat (first | exact Drawn0.refl _ | apply Drawn0.step)⟩
            · rw [if_neg c6] at H
              have c6b0 : decide ((rd l1 x9_1) < (wrap64 (-a0))) = false := decide_eq_false c6
              clear c6
              by_cases c7 : (rd l1 x9_1) > a0
              · rw [if_pos c7] at H
                have c7b0 : decide (a0 < (rd l1 x9_1)) = true := decide_eq_true c7
                clear c7
                obtain rfl := Option.some.inj H
                have p114 : 0 ≤ (x9_1 : Int) := of_decide_eq_true (by first | (with_reducible assumption) | assumption)
                have q114 : x9_1 < (l1.length : Int) := of_decide_eq_true (by first | (with_reducible assumption) | assumption)
                obtain ⟨ad114, e114, hx114_0⟩ := Kd.at_int HR1.out x9_1 p114 q114
                cases e114
                replace p114 := eq_true p114
                replace q114 := eq_true q114
                go_wp2
                go_ret
                exact ⟨by first | rfl | (simp; done) | (simp [*]; done), by repeat (first | exact Drawn0.refl _ | apply Drawn0.step)⟩
              · rw [if_neg c7] at H
                have c7b0 : decide (a0 < (rd l1 x9_1)) = false := decide_eq_false c7
                clear c7
                have H' := Aside0.mk H
                clear H
                have p114 : 0 ≤ (x9_1 : Int) := of_decide_eq_true (by first | (with_reducible assumption) | assumption)
                have q114 : x9_1 < (l1.length : Int) := of_decide_eq_true (by first | (with_reducible assumption) | assumption)
                obtain ⟨ad114, e114, hx114_0⟩ := Kd.at_int HR1.out x9_1 p114 q114
                cases e114
                replace p114 := eq_true p114
                replace q114 := eq_true q114
                go_wp2
                go_roundg k1
                case measure => have := HK1.out; omega
                case rel => exact ⟨(wrap64 (x9_1 + 1)), (by first | rfl | (simp; done) | (simp [*]; done)), H', ⟨by have := HK1.out; omega⟩, by repeat (first | exact Drawn0.refl _ | apply Drawn0.step)⟩
          · rw [if_neg c5] at H
            exact absurd H (by simp)
        · rw [if_neg c4] at H
          exact absurd H (by simp)
      · rw [if_neg c3] at H
        have c3b0 : decide (x9_1 < (l1.length : Int)) = false := decide_eq_false c3
        clear c3
        obtain rfl := Option.some.inj H
        go_wp2
        go_ret
        exact ⟨by first | rfl | (simp; done) | (simp [*]; done), by repeat (first | exact Drawn0.refl _ | apply Drawn0.step)⟩


def mabs_Abs.f (k : Nat) (a0 : Int) : Option (Int) := (mabs_within.f k 4611686018427387904 (([a0] : List Int))).bind fun t118 => (if t118 = true then (if a0 < 0 then (some (wrap64 (-a0))) else (some a0)) else (some 0))
theorem mabs_Abs.mono : ∀ a0 k, LeO (mabs_Abs.f k a0) (mabs_Abs.f (k + 1) a0) := by
  intro a0 k
  unfold mabs_Abs.f
  repeat' first
      | (with_reducible exact mabs_within.mono _ _ _)
      | (with_reducible exact LeO.refl _)
      | (with_reducible exact LeO.none _)
      | (with_reducible refine LeO.ite ?_ ?_)
      | (with_reducible refine LeO.bind ?_ (fun _ => ?_))
      | exact mabs_within.mono _ _ _
      | exact LeO.none _
      | refine LeO.ite ?_ ?_
      | refine LeO.bind ?_ (fun _ => ?_)
set_option maxHeartbeats 8000000 in
set_option maxRecDepth 100000 in
theorem mabs_Abs.calls (k : Nat) (a0 : Int) (r : Int) (w : World) (h : mabs_Abs.f k a0 = some r) :
    Calls Try.prog 103 #[.int .i64 a0] w fun e w' => e = .returned (.int .i64 r) ∧ Below w.heap.size w w' := by
  have HB := Aside0.mk (Below.refl w.heap.size w)
  have H : ((mabs_within.f k 4611686018427387904 (([a0] : List Int))).bind fun t118 => (if t118 = true then (if a0 < 0 then (some (wrap64 (-a0))) else (some a0)) else (some 0))) = some r := h
  clear h
  obtain ⟨y115, hy115⟩ : ∃ y_ : List Int, y_ = (([a0] : List Int)) := ⟨_, rfl⟩
  replace H : ((mabs_within.f k 4611686018427387904 y115).bind fun t118 => (if t118 = true then (if a0 < 0 then (some (wrap64 (-a0))) else (some a0)) else (some 0))) = some r := by first | (rw [hy115]; with_reducible exact H) | (have H2_ := (Option.bind_some _ _).symm.trans H; rw [hy115]; with_reducible exact H2_) | (have H2_ := (Option.bind_some _ _).symm.trans H; with_reducible exact H2_) | with_reducible exact H | (rw [hy115]; exact H) | exact H
  have Ny115 := Aside0.mk hy115
  clear hy115
  replace H := Option.bind_eq_some_iff.mp H
  obtain ⟨t118, A20, H⟩ := H
  replace H : (if t118 = true then (if a0 < 0 then (some (wrap64 (-a0))) else (some a0)) else (some 0)) = some r := H
  have A2 := Aside0.mk A20
  clear A20
  by_cases c3 : t118 = true
  · subst c3
    have H1 : (if a0 < 0 then (some (wrap64 (-a0))) else (some a0)) = some r := by rw [if_pos rfl] at H; exact H
    clear H
    have H := H1
    clear H1
    by_cases c4 : a0 < 0
    · rw [if_pos c4] at H
      have c4b0 : decide (a0 < 0) = true := decide_eq_true c4
      clear c4
      obtain rfl := Option.some.inj H
      go_enter Try.func103, Try.ntmps103
      go_wp2_with (first | ((with_reducible refine gate_dst (N := 5) rfl ?_); refine Kd.R_lit (Kd.int .i64) _ 3 ?hg (N := 5) ?hd (xs := ([a0] : List Int)) (inner := [.int .i64 a0]) (ok := fun _ => True) (okp := fun _ => True) ?hr ?hp (fun _ hk => hk) trivial (Below.refl _ _) (Nat.le_refl _) (by simp) ?_; (case hd => rfl); (case hg => rfl); (case hr => first | (go_simp; done) | (go_simp; rfl)); (case hp => exact (Reps.one (show Kd.M (Kd.int .i64) _ _ _ a0 [.int .i64 a0] from rfl) (Reps.none _ _))); intro v116 w5 ho6 hb hg_ hnew_; clear hg_ hnew_; (first | rw [← Ny115.out] at ho6 | (simp only [Int.reduceToNat] at ho6; rw [← Ny115.out] at ho6)); have n0_ := Aside0.mk (Kd.R_lower ho6 (below_size (by repeat (first | (with_reducible first | exact HB.out | apply below_alloc | apply pw_below_drewN | apply below_drew1) | exact HB.out)))); have n1_ := Aside0.mk (below_step (by repeat (first | (with_reducible first | exact HB.out | apply below_alloc | apply pw_below_drewN | apply below_drew1) | exact HB.out)) hb); clear HB; have HO117 := n0_; have HB := n1_; clear n0_ n1_; clear hb ho6; obtain ⟨Ao7, co7, eo7⟩ := Kd.R_slice HO117.out; subst eo7) | ((with_reducible refine gate_callee (f := 116) rfl ?_); refine goesL_ (some 6) rfl rfl Try.func116 (by kernel_rfl) rfl #[.int .i64 4611686018427387904, .slice Ao7 y115.length co7] rfl (by (try simp only [List.map_toArray, List.map_cons, List.map_nil]); first | done | rfl | (simp only [List.length_drop, List.length_take]; rfl)) ?_; (with_reducible refine (mabs_within.calls k 4611686018427387904 _ _ y115 true _ ?side1 ?side2 A2.out).mono ?_); (case side1 => repeat (first | exact (Kd.R_reads' HO117.out).2.2 | (with_reducible refine Kd.C_alloc ?_ _) | (with_reducible refine Kd.C_drewN ?_ _) | (with_reducible refine Kd.C_drew ?_))); (case side2 => exact (Kd.R_reads' HO117.out).2.1); rintro e w' ⟨rfl, ⟨nd, rfl⟩⟩; refine ⟨_, rfl, ?_⟩))
      go_ret
      exact ⟨by first | rfl | (simp [errW_none, errW_some] <;> rfl) | (simp [*, errW_none, errW_some] <;> rfl), by repeat (first | (with_reducible first | exact HB.out | apply below_alloc | apply pw_below_drewN | apply below_drew1) | exact HB.out)⟩
    · rw [if_neg c4] at H
      have c4b0 : decide (a0 < 0) = false := decide_eq_false c4
      clear c4
      obtain rfl := Option.some.inj H
      go_enter Try.func103, Try.ntmps103
      go_wp2_with (first | ((with_reducible refine gate_dst (N := 5) rfl ?_); refine Kd.R_lit (Kd.int .i64) _ 3 ?hg (N := 5) ?hd (xs := ([a0] : List Int)) (inner := [.int .i64 a0]) (ok := fun _ => True) (okp := fun _ => True) ?hr ?hp (fun _ hk => hk) trivial (Below.refl _ _) (Nat.le_refl _) (by simp) ?_; (case hd => rfl); (case hg => rfl); (case hr => first | (go_simp; done) | (go_simp; rfl)); (case hp => exact (Reps.one (show Kd.M (Kd.int .i64) _ _ _ a0 [.int .i64 a0] from rfl) (Reps.none _ _))); intro v116 w8 ho9 hb hg_ hnew_; clear hg_ hnew_; (first | rw [← Ny115.out] at ho9 | (simp only [Int.reduceToNat] at ho9; rw [← Ny115.out] at ho9)); have n0_ := Aside0.mk (Kd.R_lower ho9 (below_size (by repeat (first | (with_reducible first | exact HB.out | apply below_alloc | apply pw_below_drewN | apply below_drew1) | exact HB.out)))); have n1_ := Aside0.mk (below_step (by repeat (first | (with_reducible first | exact HB.out | apply below_alloc | apply pw_below_drewN | apply below_drew1) | exact HB.out)) hb); clear HB; have HO117 := n0_; have HB := n1_; clear n0_ n1_; clear hb ho9; obtain ⟨Ao10, co10, eo10⟩ := Kd.R_slice HO117.out; subst eo10) | ((with_reducible refine gate_callee (f := 116) rfl ?_); refine goesL_ (some 6) rfl rfl Try.func116 (by kernel_rfl) rfl #[.int .i64 4611686018427387904, .slice Ao10 y115.length co10] rfl (by (try simp only [List.map_toArray, List.map_cons, List.map_nil]); first | done | rfl | (simp only [List.length_drop, List.length_take]; rfl)) ?_; (with_reducible refine (mabs_within.calls k 4611686018427387904 _ _ y115 true _ ?side1 ?side2 A2.out).mono ?_); (case side1 => repeat (first | exact (Kd.R_reads' HO117.out).2.2 | (with_reducible refine Kd.C_alloc ?_ _) | (with_reducible refine Kd.C_drewN ?_ _) | (with_reducible refine Kd.C_drew ?_))); (case side2 => exact (Kd.R_reads' HO117.out).2.1); rintro e w' ⟨rfl, ⟨nd, rfl⟩⟩; refine ⟨_, rfl, ?_⟩))
      go_ret
      exact ⟨by first | rfl | (simp [errW_none, errW_some] <;> rfl) | (simp [*, errW_none, errW_some] <;> rfl), by repeat (first | (with_reducible first | exact HB.out | apply below_alloc | apply pw_below_drewN | apply below_drew1) | exact HB.out)⟩
  · replace c3 := Bool.eq_false_iff.mpr c3
    subst c3
    have H1 : (some 0) = some r := by rw [if_neg (show ¬ (false = true) by decide)] at H; exact H
    clear H
    have H := H1
    clear H1
    obtain rfl := Option.some.inj H
    go_enter Try.func103, Try.ntmps103
    go_wp2_with (first | ((with_reducible refine gate_dst (N := 5) rfl ?_); refine Kd.R_lit (Kd.int .i64) _ 3 ?hg (N := 5) ?hd (xs := ([a0] : List Int)) (inner := [.int .i64 a0]) (ok := fun _ => True) (okp := fun _ => True) ?hr ?hp (fun _ hk => hk) trivial (Below.refl _ _) (Nat.le_refl _) (by simp) ?_; (case hd => rfl); (case hg => rfl); (case hr => first | (go_simp; done) | (go_simp; rfl)); (case hp => exact (Reps.one (show Kd.M (Kd.int .i64) _ _ _ a0 [.int .i64 a0] from rfl) (Reps.none _ _))); intro v116 w11 ho12 hb hg_ hnew_; clear hg_ hnew_; (first | rw [← Ny115.out] at ho12 | (simp only [Int.reduceToNat] at ho12; rw [← Ny115.out] at ho12)); have n0_ := Aside0.mk (Kd.R_lower ho12 (below_size (by repeat (first | (with_reducible first | exact HB.out | apply below_alloc | apply pw_below_drewN | apply below_drew1) | exact HB.out)))); have n1_ := Aside0.mk (below_step (by repeat (first | (with_reducible first | exact HB.out | apply below_alloc | apply pw_below_drewN | apply below_drew1) | exact HB.out)) hb); clear HB; have HO117 := n0_; have HB := n1_; clear n0_ n1_; clear hb ho12; obtain ⟨Ao13, co13, eo13⟩ := Kd.R_slice HO117.out; subst eo13) | ((with_reducible refine gate_callee (f := 116) rfl ?_); refine goesL_ (some 6) rfl rfl Try.func116 (by kernel_rfl) rfl #[.int .i64 4611686018427387904, .slice Ao13 y115.length co13] rfl (by (try simp only [List.map_toArray, List.map_cons, List.map_nil]); first | done | rfl | (simp only [List.length_drop, List.length_take]; rfl)) ?_; (with_reducible refine (mabs_within.calls k 4611686018427387904 _ _ y115 false _ ?side1 ?side2 A2.out).mono ?_); (case side1 => repeat (first | exact (Kd.R_reads' HO117.out).2.2 | (with_reducible refine Kd.C_alloc ?_ _) | (with_reducible refine Kd.C_drewN ?_ _) | (with_reducible refine Kd.C_drew ?_))); (case side2 => exact (Kd.R_reads' HO117.out).2.1); rintro e w' ⟨rfl, ⟨nd, rfl⟩⟩; refine ⟨_, rfl, ?_⟩))
    go_ret
    exact ⟨by first | rfl | (simp [errW_none, errW_some] <;> rfl) | (simp [*, errW_none, errW_some] <;> rfl), by repeat (first | (with_reducible first | exact HB.out | apply below_alloc | apply pw_below_drewN | apply below_drew1) | exact HB.out)⟩

-- NOT PRINTED: function 58 (meter_meter_hears)

open IdxX
section
variable {P : Program} {ops : Array Oper} {Q : Exit → Act → World → Prop}
/-- A call of a function value, by its contract. -/
theorem goesV_ {oi : Oper} {N : Option Tmp} {a : Act} {w : World} {K : Act → World → Prop} {g : FuncId} {lb : Array Value} {ags : Array Operand} {ts : Array TypeId} {c : Operand} (eg : ∀ args w, (callFunc g args).run P w = .ok (.enter g args) w) (args : Array Value)
    (hw : Region.wanted oi (yielded ops a.tmps) = true) (hN : oi.dst = N) (hop : oi.op = .call { callee := .value c, args := ags, argTypes := ts }) (hc : a.eval c = .func (.func g) #[] lb) (hargs : ags.map a.eval = args)
    (h : Calls P g (args ++ lb) w fun e w' => ∃ v, e = .returned v ∧ K (a.put N v) w') : if Region.wanted oi (yielded ops a.tmps) = true then Oper.wp P oi a w K Q else K (a.put N undef) w := by
  refine call_ g (args ++ lb) hw hN ?_ h
  unfold execOp
  simp [hop, resolve, hc, Deferred.ofValue, invoke, hargs, eg]
end
theorem getD_cell {w : World} {a : Option Addr} {x : List Int} (h : Kd.C (Kd.int .i64) w a x.length x) (i : Nat) (hi : i < x.length) : ∃ ad, a = some ad ∧ w.cell? (ad.add i) = some (.int .i64 (x.getD i 0)) := by
  obtain ⟨ad, hA, hc⟩ := Kd.at_int h (i : Int) (by omega) (by omega)
  rw [Int.toNat_natCast] at hc
  refine ⟨ad, hA, hc.trans ?_⟩
  unfold rd
  rw [Int.toNat_natCast]
def Some1.T1 : Bool × List (List Nat × List Nat) := (true, [([], []), ([], []), ([], []), ([1, 2], [1, 2]), ([3], [3]), ([0, 4], [0, 4]), ([5, 5, 0, 1, 2, 3, 4, 5], [5])])
def Some1.B1 : List Nat := [0, 0, 0, 6, 14, 31, 63]
theorem Some1.tab1 : rtab .any (opsOf Try.f109 1) = Some1.T1 := by kernel_rfl
theorem Some1.bits1 : waitsOk Some1.T1.2 Some1.B1 = true := by kernel_rfl
/- 0:load>5; 1:move>6; 2:load>7; 3:indexAddr>8; 4:load>9; 5:call>10; 6:assign>4 -/
set_option maxHeartbeats 1000000 in
set_option maxRecDepth 100000 in
theorem meter_some1 (g : Nat) (lb : Array Value) (eg : ∀ args w, (callFunc g args).run Try.prog w = .ok (.enter g args) w) (a : Option Addr) (cx : Nat) (x : List Int) (i b1 b2 : Nat) (bq : Bool) (w : World) (hC : Kd.C (Kd.int .i64) w a x.length x) (hi : i < x.length)
    (h1 : w.cell? ⟨b1, 0, none⟩ = some (.func (.func g) #[] lb)) (h2 : w.cell? ⟨b2, 0, none⟩ = some (.int .i64 i))
    (hq : ∀ W, Below w.heap.size w W → Calls Try.prog g (#[.int .i64 (x.getD i 0)] ++ lb) W fun e W' => e = .returned (.bool bq) ∧ Below W.heap.size W W') :
    Calls Try.prog 109 #[.slice a x.length cx, .pointer (some ⟨b1, 0, none⟩), .pointer (some ⟨b2, 0, none⟩)] w fun e w' => e = .returned (.bool bq) ∧ Below w.heap.size w w' := by
  obtain ⟨ad, rfl, hc⟩ := getD_cell hC i hi
  have HQ := Aside0.mk (hq w.drew (below_drew (Below.refl _ _)))
  clear hq hC
  have p1 : (0 ≤ (i : Int)) = True := eq_true (by omega)
  have p2 : ((i : Int) < (x.length : Int)) = True := eq_true (by omega)
  generalize x.getD i 0 = y at *
  generalize x.length = n at *
  go_enter Try.func109, Try.ntmps109
  go_wp2_with fail
  refine start_ (n := 7) (S := fun w' => w'.cell? ⟨b1, 0, none⟩ = some (.func (.func g) #[] lb) ∧ w'.cell? ⟨b2, 0, none⟩ = some (.int .i64 i) ∧ w'.cell? (ad.add i) = some (.int .i64 y)) (ds := [5]) #[false, false, false, false, false, false, false] (by kernel_rfl) rfl rfl ⟨h1, h2, hc⟩ (fun hHeld => ?_); refine with_tabW Some1.tab1 Some1.bits1 (fun HT_ HW_ => ?_)
  refine pure_ (i := 1) (N := (some 6)) (v := ?_) (a' := ?_) #[false, true, false, false, false, false, false] rfl rfl (any_of HT_.out (by kernel_rfl)) (fun _ _ _ h => h) (Or.inl ⟨by rfl, ?_⟩) ?_ ?_
  rotate_left
  · intro w'
    go_simp
    with_reducible rfl
  rotate_left
  · simp only [Act.put, List.setIfInBounds_toArray, List.set_cons_zero, List.set_cons_succ, i64_w, i32_w]
    rfl
  refine take_ (i := 0) (N := (some 5)) (v := ?_) (a' := ?_) #[true, true, false, false, false, false, false] rfl rfl (take_ofW HT_.out HW_.out (by kernel_rfl)) (fun _ _ _ h => h) (Or.inl ⟨by rfl, ?_⟩) hHeld ?_ ?_
  rotate_left
  · intro w' hS_
    go_simp
    obtain ⟨hS1_, hS2_, hS3_⟩ := hS_; go_simp; with_reducible rfl
  rotate_left
  · simp only [Act.put, List.setIfInBounds_toArray, List.set_cons_zero, List.set_cons_succ, i64_w, i32_w]
    rfl
  refine take_ (i := 2) (N := (some 7)) (v := ?_) (a' := ?_) #[true, true, true, false, false, false, false] rfl rfl (take_ofW HT_.out HW_.out (by kernel_rfl)) (fun _ _ _ h => h) (Or.inl ⟨by rfl, ?_⟩) hHeld ?_ ?_
  rotate_left
  · intro w' hS_
    go_simp
    obtain ⟨hS1_, hS2_, hS3_⟩ := hS_; go_simp; with_reducible rfl
  rotate_left
  · simp only [Act.put, List.setIfInBounds_toArray, List.set_cons_zero, List.set_cons_succ, i64_w, i32_w]
    rfl
  refine pure_ (i := 3) (N := (some 8)) (v := ?_) (a' := ?_) #[true, true, true, true, false, false, false] rfl rfl (any_of HT_.out (by kernel_rfl)) (fun _ _ _ h => h) (Or.inl ⟨by rfl, ?_⟩) ?_ ?_
  rotate_left
  · intro w'
    go_simp
    with_reducible rfl
  rotate_left
  · simp only [Act.put, List.setIfInBounds_toArray, List.set_cons_zero, List.set_cons_succ, i64_w, i32_w]
    rfl
  refine take_ (i := 4) (N := (some 9)) (v := ?_) (a' := ?_) #[true, true, true, true, true, false, false] rfl rfl (take_ofW HT_.out HW_.out (by kernel_rfl)) (fun _ _ _ h => h) (Or.inl ⟨by rfl, ?_⟩) hHeld ?_ ?_
  rotate_left
  · intro w' hS_
    go_simp
    obtain ⟨hS1_, hS2_, hS3_⟩ := hS_; go_simp; with_reducible rfl
  rotate_left
  · simp only [Act.put, List.setIfInBounds_toArray, List.set_cons_zero, List.set_cons_succ, i64_w, i32_w]
    rfl
  refine last_ (i := 5) (N := (some 10)) #[true, true, true, true, true, true, false] rfl rfl (one_of HT_.out (by kernel_rfl)) (by decide) (fun K hK => ?_)
  refine goesV_ eg #[.int .i64 y] (by rfl) rfl rfl (by rfl) (by (try simp only [List.map_toArray, List.map_cons, List.map_nil]); first | done | rfl) ?_
  refine HQ.out.mono ?_
  rintro e w1 ⟨rfl, hb1⟩
  refine ⟨_, rfl, ?_⟩
  refine hK.out _ _ ?_
  clear hK K
  refine norm_ (a' := ?_) ?_ ?_
  rotate_left
  · (try show Act.put _ (some 10) _ = _)
    (try simp only [Act.put, List.setIfInBounds_toArray, List.set_cons_zero, List.set_cons_succ, i64_w, i32_w])
    rfl
  refine pure_ (i := 6) (N := (some 4)) (v := ?_) (a' := ?_) #[true, true, true, true, true, true, true] rfl rfl (any_of HT_.out (by kernel_rfl)) (fun _ _ _ h => h) (Or.inl ⟨by rfl, ?_⟩) ?_ ?_
  rotate_left
  · intro w'
    go_simp
    with_reducible rfl
  rotate_left
  · simp only [Act.put, List.setIfInBounds_toArray, List.set_cons_zero, List.set_cons_succ, i64_w, i32_w]
    rfl
  refine done_ (done_of HT_.out (by kernel_rfl)) ?_
  go_wp2_with fail
  go_ret
  exact ⟨rfl, (below_drew (Below.refl w.heap.size w)).trans hb1⟩
set_option maxHeartbeats 1000000 in
set_option maxRecDepth 100000 in
theorem meter_some (g : Nat) (lb : Array Value) (eg : ∀ args w, (callFunc g args).run Try.prog w = .ok (.enter g args) w) (A : Option Addr) (c : Nat) (l : List (List Int)) (i : Nat) (q : Int → Bool) (w : World) (hr : Kd.C (Kd.slice 3 (Kd.int .i64)) w A l.length l)
    (hi : ∀ x, x ∈ l → i < x.length)
    (hp : ∀ x, x ∈ l → ∀ W, Below w.heap.size w W → Calls Try.prog g (#[.int .i64 (x.getD i 0)] ++ lb) W fun e W' => e = .returned (.bool (q (x.getD i 0))) ∧ Below W.heap.size W W') :
    Calls Try.prog 66 #[.slice A l.length c, .int .i64 i, .func (.func g) #[] lb] w fun e w' => e = .returned (.bool (l.any fun x => q (x.getD i 0))) ∧ Below w.heap.size w w' := by
  obtain ⟨w2, hw2⟩ : ∃ w2, w2 = (w.alloc (.cells #[.int .i64 i] 3)).alloc (.cells #[.func (.func g) #[] lb] 68) := ⟨_, rfl⟩
  have hB2 : Below w.heap.size w w2 := by rw [hw2]; exact below_alloc (below_alloc (Below.refl _ _) _) _
  have hb1 : w2.heap[w.heap.size]? = some (.cells #[.int .i64 i] 3 (0, 0)) := by rw [hw2]; exact blk_alloc (blk_new w _) _
  have hb2 : w2.heap[w.heap.size + 1]? = some (.cells #[.func (.func g) #[] lb] 68 (0, 0)) := by
    rw [hw2]
    have := blk_new (w.alloc (.cells #[.int .i64 i] 3)) (.cells #[.func (.func g) #[] lb] 68)
    rwa [World.size_alloc] at this
  have hall := contains_rows 109 #[.pointer (some ⟨w.heap.size + 1, 0, none⟩), .pointer (some ⟨w.heap.size, 0, none⟩)] (enters_of Try.func109 (by kernel_rfl) rfl) A c l (fun x => q (x.getD i 0)) w2 (Kd.C_below hr hB2) (fun x hx W hW a cx _ hC =>
    meter_some1 g lb eg a cx x i (w.heap.size + 1) w.heap.size (q (x.getD i 0)) W hC (hi x hx) ((blk_cell (blk_below hb2 hW) 0).trans rfl) ((blk_cell (blk_below hb1 hW) 0).trans rfl)
      (fun W2 hW2 => hp x hx W2 (below_step (below_step hB2 hW) hW2)))
  have HALL := Aside0.mk hall
  clear hall hb1 hb2 hp hr
  generalize (l.any fun x => q (x.getD i 0)) = b at *
  generalize l.length = n at *
  go_enter Try.func66, Try.ntmps66
  go_upto_region 1 with (fail)
  rw [← hw2]
  clear hw2
  go_wp2_with (go_at_call 108; refine HALL.out.mono ?_; rintro e w3 ⟨rfl, hb3⟩)
  go_ret
  exact ⟨rfl, below_step hB2 hb3⟩
def iabs (x : Int) : Int := if x < 0 then -x else x
theorem abs_f (x : Int) (h0 : -2097152 ≤ x) (h1 : x ≤ 2097152) : mabs_Abs.f 3 x = some (iabs x) := by
  have hw : mabs_within.f 3 4611686018427387904 [x] = some true := by
    unfold mabs_within.f
    simp only [mabs_within.l0, List.length_singleton]
    have e : rd [x] 0 = x := rfl
    have e1 : wrap64 (-4611686018427387904) = -4611686018427387904 := by unfold wrap64; omega
    have e2 : wrap64 (0 + 1) = 1 := by unfold wrap64; omega
    rw [if_pos (by decide), if_pos (by decide), if_pos (by decide), e, e1, if_neg (by omega), if_neg (by omega), e2, if_neg (by decide)]
  unfold mabs_Abs.f iabs
  rw [hw, Option.bind_some, if_pos rfl]
  by_cases hx : x < 0
  · rw [if_pos hx, if_pos hx]; congr 1; unfold wrap64; omega
  · rw [if_neg hx, if_neg hx]
def Loud2.T1 : Bool × List (List Nat × List Nat) := (true, [([], []), ([0], [0]), ([], []), ([1, 2], [1, 2]), ([3, 1, 0, 1, 2, 3], [3])])
def Loud2.B1 : List Nat := [0, 1, 0, 7, 15]
theorem Loud2.tab1 : rtab .any (opsOf Try.f102 1) = Loud2.T1 := by kernel_rfl
theorem Loud2.bits1 : waitsOk Loud2.T1.2 Loud2.B1 = true := by kernel_rfl
/- 0:move>4; 1:call>5; 2:load>6; 3:binOp>7; 4:assign>3 -/
set_option maxHeartbeats 1000000 in
set_option maxRecDepth 100000 in
theorem meter_loud2 (x floor : Int) (B : Nat) (w : World) (h0 : -2097152 ≤ x) (h1 : x ≤ 2097152) (hb : w.cell? ⟨B, 0, none⟩ = some (.int .i64 floor)) :
    Calls Try.prog 102 #[.int .i64 x, .pointer (some ⟨B, 0, none⟩)] w fun e w' => e = .returned (.bool (decide (floor < iabs x))) ∧ Below w.heap.size w w' := by
  have ha := abs_f x h0 h1
  generalize iabs x = y at *
  go_enter Try.func102, Try.ntmps102
  go_wp2_with fail
  refine start_ (n := 5) (S := fun w' => w'.cell? ⟨B, 0, none⟩ = some (.int .i64 floor)) (ds := []) #[false, false, false, false, false] (by kernel_rfl) rfl rfl hb (fun hHeld => ?_); refine with_tabW Loud2.tab1 Loud2.bits1 (fun HT_ HW_ => ?_)
  refine pure_ (i := 0) (N := (some 4)) (v := ?_) (a' := ?_) #[true, false, false, false, false] rfl rfl (any_of HT_.out (by kernel_rfl)) (fun _ _ _ h => h) (Or.inl ⟨by rfl, ?_⟩) ?_ ?_
  rotate_left
  · intro w'
    go_simp
    with_reducible rfl
  rotate_left
  · simp only [Act.put, List.setIfInBounds_toArray, List.set_cons_zero, List.set_cons_succ, i64_w, i32_w]
    rfl
  refine take_ (i := 2) (N := (some 6)) (v := ?_) (a' := ?_) #[true, false, true, false, false] rfl rfl (take_ofW HT_.out HW_.out (by kernel_rfl)) (fun _ _ _ h => h) (Or.inl ⟨by rfl, ?_⟩) hHeld ?_ ?_
  rotate_left
  · intro w' hS_
    go_simp
    go_simp; with_reducible rfl
  rotate_left
  · simp only [Act.put, List.setIfInBounds_toArray, List.set_cons_zero, List.set_cons_succ, i64_w, i32_w]
    rfl
  refine one_ (i := 1) (N := (some 5)) #[true, true, true, false, false] rfl rfl (one_of HT_.out (by kernel_rfl)) (by decide) (fun K hK => ?_)
  refine goes_ Try.func103 (by kernel_rfl) rfl #[.int .i64 x] (by rfl) rfl rfl (by (try simp only [List.map_toArray, List.map_cons, List.map_nil]); first | done | rfl) ?_
  refine (mabs_Abs.calls 3 _ _ _ ha).mono ?_
  rintro e w1 ⟨rfl, hb1⟩
  refine ⟨_, rfl, ?_⟩
  have hcell : w1.cell? ⟨B, 0, none⟩ = some (.int .i64 floor) := (hb1.cell (p := ⟨B, 0, none⟩) (World.block_lt_of_cell? w _ hb)).trans hb
  refine hK.out _ _ hcell (fun hHeld => ?_)
  clear hK K
  refine norm_ (a' := ?_) ?_ ?_
  rotate_left
  · show Act.put _ (some 5) _ = _
    simp only [Act.put, List.setIfInBounds_toArray, List.set_cons_zero, List.set_cons_succ, i64_w, i32_w]
    rfl
  refine pure_ (i := 3) (N := (some 7)) (v := ?_) (a' := ?_) #[true, true, true, true, false] rfl rfl (any_of HT_.out (by kernel_rfl)) (fun _ _ _ h => h) (Or.inl ⟨by rfl, ?_⟩) ?_ ?_
  rotate_left
  · intro w'
    go_simp
    with_reducible rfl
  rotate_left
  · simp only [Act.put, List.setIfInBounds_toArray, List.set_cons_zero, List.set_cons_succ, i64_w, i32_w]
    rfl
  refine pure_ (i := 4) (N := (some 3)) (v := ?_) (a' := ?_) #[true, true, true, true, true] rfl rfl (any_of HT_.out (by kernel_rfl)) (fun _ _ _ h => h) (Or.inl ⟨by rfl, ?_⟩) ?_ ?_
  rotate_left
  · intro w'
    go_simp
    with_reducible rfl
  rotate_left
  · simp only [Act.put, List.setIfInBounds_toArray, List.set_cons_zero, List.set_cons_succ, i64_w, i32_w]
    rfl
  refine done_ (done_of HT_.out (by kernel_rfl)) ?_
  go_wp2_with fail
  go_ret
  exact ⟨rfl, (below_drew (Below.refl w.heap.size w)).trans hb1⟩
def loudAt (l : List (List Int)) (floor : Int) (i : Nat) : Bool := l.any fun x => decide (floor < iabs (x.getD i 0))
theorem okS_bd {x : List Int} (h : ∀ y, y ∈ x → -32768 ≤ y ∧ y ≤ 32767) (i : Nat) : -2097152 ≤ x.getD i 0 ∧ x.getD i 0 ≤ 2097152 := by
  by_cases hi : i < x.length
  · have hm : x.getD i 0 ∈ x := by
      rw [List.getD_eq_getElem?_getD, List.getElem?_eq_getElem hi]
      exact List.getElem_mem hi
    have := h _ hm
    omega
  · rw [List.getD_eq_getElem?_getD, List.getElem?_eq_none (by omega)]
    simp
set_option maxHeartbeats 1000000 in
set_option maxRecDepth 100000 in
theorem meter_loud1 (A : Option Addr) (c : Nat) (l : List (List Int)) (floor : Int) (i B B2 : Nat) (w : World) (hr : Kd.C (Kd.slice 3 (Kd.int .i64)) w A l.length l) (hi : ∀ x, x ∈ l → i < x.length) (hok : ∀ x, x ∈ l → ∀ y, y ∈ x → -32768 ≤ y ∧ y ≤ 32767)
    (hb1 : w.heap[B]? = some (.cells #[.slice A l.length c] 22 (0, 0))) (hb2 : w.heap[B2]? = some (.cells #[.int .i64 floor] 3 (0, 0))) :
    Calls Try.prog 101 #[.int .i64 i, .pointer (some ⟨B, 0, none⟩), .pointer (some ⟨B2, 0, none⟩)] w fun e w' => e = .returned (.bool (loudAt l floor i)) ∧ Below w.heap.size w w' := by
  have hs := meter_some 102 #[.pointer (some ⟨B2, 0, none⟩)] (enters_of Try.func102 (by kernel_rfl) rfl) A c l i (fun y => decide (floor < iabs y)) w hr hi
    (fun x hx W hW => meter_loud2 (x.getD i 0) floor B2 W (okS_bd (hok x hx) i).1 (okS_bd (hok x hx) i).2 ((blk_cell (blk_below hb2 hW) 0).trans rfl))
  have hs' : Calls Try.prog 66 #[.slice A l.length c, .int .i64 i, .func (.func 102) #[] #[.pointer (some ⟨B2, 0, none⟩)]] w fun e w' => e = .returned (.bool (loudAt l floor i)) ∧ Below w.heap.size w w' := hs
  clear hs
  have HS := Aside0.mk hs'
  have h1 : w.cell? ⟨B, 0, none⟩ = some (.slice A l.length c) := (blk_cell hb1 0).trans rfl
  clear hs' hb1 hb2 hok hi hr
  generalize loudAt l floor i = b at *
  generalize l.length = n at *
  go_enter Try.func101, Try.ntmps101
  go_wp2_with (go_at_call 66; refine HS.out.mono ?_; rintro e w1 ⟨rfl, hb1⟩)
  go_ret
  exact ⟨rfl, hb1⟩
set_option maxHeartbeats 1000000 in
set_option maxRecDepth 100000 in
theorem meter_loud (A : Option Addr) (n c : Nat) (floor : Int) (w : World) : Calls Try.prog 54 #[.slice A n c, .int .i64 floor] w fun e w' => e = .returned (.func (.func 101) #[] #[.pointer (some ⟨w.heap.size, 0, none⟩), .pointer (some ⟨w.heap.size + 1, 0, none⟩)]) ∧ w' = (w.alloc (.cells #[.slice A n c] 22)).alloc (.cells #[.int .i64 floor] 3) := by
  go_enter Try.func54, Try.ntmps54
  go_wp2
  go_ret
  exact ⟨rfl, rfl⟩
set_option maxHeartbeats 1000000 in
set_option maxRecDepth 100000 in
theorem meter_quiet1 (g : Nat) (lb : Array Value) (i B : Nat) (b : Bool) (w : World) (h1 : w.cell? ⟨B, 0, none⟩ = some (.func (.func g) #[] lb)) (hq : Calls Try.prog g (#[.int .i64 i] ++ lb) w fun e w' => e = .returned (.bool b) ∧ Below w.heap.size w w') (eg : ∀ args w, (callFunc g args).run Try.prog w = .ok (.enter g args) w) :
    Calls Try.prog 57 #[.int .i64 i, .pointer (some ⟨B, 0, none⟩)] w fun e w' => e = .returned (.bool (!b)) ∧ Below w.heap.size w w' := by
  have HQ := Aside0.mk hq
  clear hq
  go_enter Try.func57, Try.ntmps57
  go_wp2_with fail
  refine HQ.out.mono ?_
  rintro e w1 ⟨rfl, hb1⟩
  go_wp2_with fail
  go_ret
  exact ⟨rfl, hb1⟩
def clipB (x : Int) : Bool := x == 32767 || x == -32768
set_option maxHeartbeats 1000000 in
set_option maxRecDepth 100000 in
theorem meter_clips2 (x : Int) (w : World) : Calls Try.prog 67 #[.int .i64 x] w fun e w' => e = .returned (.bool (clipB x)) ∧ Below w.heap.size w w' := by
  unfold clipB
  cases h1 : x == 32767 with
  | true =>
    go_enter Try.func67, Try.ntmps67
    go_wp2_with fail
    go_ret
    exact ⟨rfl, Below.refl _ _⟩
  | false =>
    generalize hb : (x == -32768) = b at *
    go_enter Try.func67, Try.ntmps67
    go_wp2_with fail
    go_ret
    exact ⟨by first | rfl | (rw [Bool.false_or]; rfl), Below.refl _ _⟩
def clipAt (l : List (List Int)) (i : Nat) : Bool := l.any fun x => clipB (x.getD i 0)
set_option maxHeartbeats 1000000 in
set_option maxRecDepth 100000 in
theorem meter_clips1 (A : Option Addr) (c : Nat) (l : List (List Int)) (i B : Nat) (w : World) (hr : Kd.C (Kd.slice 3 (Kd.int .i64)) w A l.length l) (hi : ∀ x, x ∈ l → i < x.length)
    (hb1 : w.heap[B]? = some (.cells #[.slice A l.length c] 22 (0, 0))) :
    Calls Try.prog 65 #[.int .i64 i, .pointer (some ⟨B, 0, none⟩)] w fun e w' => e = .returned (.bool (clipAt l i)) ∧ Below w.heap.size w w' := by
  have hs := meter_some 67 #[] (enters_of Try.func67 (by kernel_rfl) rfl) A c l i clipB w hr hi (fun x hx W hW => meter_clips2 (x.getD i 0) W)
  have hs' : Calls Try.prog 66 #[.slice A l.length c, .int .i64 i, .func (.func 67) #[] #[]] w fun e w' => e = .returned (.bool (clipAt l i)) ∧ Below w.heap.size w w' := hs
  clear hs
  have HS := Aside0.mk hs'
  have h1 : w.cell? ⟨B, 0, none⟩ = some (.slice A l.length c) := (blk_cell hb1 0).trans rfl
  clear hs' hb1 hi hr
  generalize clipAt l i = b at *
  generalize l.length = n at *
  go_enter Try.func65, Try.ntmps65
  go_wp2_with (go_at_call 66; refine HS.out.mono ?_; rintro e w1 ⟨rfl, hb1⟩)
  go_ret
  exact ⟨rfl, hb1⟩
def seg (least : Int) (from_ at_ : Nat) : List S32 := if (from_ : Int) < at_ ∧ least ≤ (at_ : Int) - from_ then [⟨from_, at_⟩] else []
/-- What lies while spans are told: where the last one begins, the least length, the spans so far. -/
structure SpSt (base gf gl go : Nat) (w : World) (W : World) (from_ : Nat) (least : Int) (sps : List S32) : Prop where
  f : W.heap[gf]? = some (.cells #[.int .i64 from_] 3 (0, 0))
  l : W.heap[gl]? = some (.cells #[.int .i64 least] 3 (0, 0))
  o : ∃ v, W.heap[go]? = some (.cells #[v] 29 (0, 0)) ∧ Kd.R k32 32 W w.heap.size (fun k => (k ≠ gf ∧ k ≠ gl) ∧ k ≠ go) v sps
  b : Below w.heap.size w W
theorem SpSt.below {base gf gl go : Nat} {w W W' : World} {from_ : Nat} {least : Int} {sps : List S32} (h : SpSt base gf gl go w W from_ least sps) (hb : Below W.heap.size W W') : SpSt base gf gl go w W' from_ least sps := by
  obtain ⟨v, h1, h2⟩ := h.o
  exact ⟨blk_below h.f hb, blk_below h.l hb, ⟨v, blk_below h1 hb, Kd.R_below h2 hb⟩, below_step h.b hb⟩
theorem SpSt.next {base gf gl go : Nat} {w W : World} {x : Value} {at_ : Nat} {least : Int} {v : Value} {sps : List S32} (hf : W.heap[gf]? = some (.cells #[x] 3 (0, 0))) (hl : W.heap[gl]? = some (.cells #[.int .i64 least] 3 (0, 0)))
    (hv : W.heap[go]? = some (.cells #[v] 29 (0, 0))) (hR : Kd.R k32 32 W w.heap.size (fun k => (k ≠ gf ∧ k ≠ gl) ∧ k ≠ go) v sps) (hB : Below w.heap.size w W) (hd : gf ≠ go ∧ gl ≠ go ∧ gf ≠ gl) (hg : w.heap.size ≤ gf) :
    SpSt base gf gl go w (W.setCell ⟨gf, 0, none⟩ (.int .i64 ((at_ : Int) + 1))) (at_ + 1) least sps := by
  have hk := (KeepBut.refl W gf none).set_ 0 (.int .i64 ((at_ : Int) + 1))
  refine ⟨?_, (hk.2 gl (blk_lt hl) hd.2.2.symm (by simp)).trans hl, ⟨v, (hk.2 go (blk_lt hv) hd.1.symm (by simp)).trans hv, Kd.R_keep hR hk (fun _ h => h.1.1)⟩, below_set hB hg⟩
  exact blk_put (cs := #[x]) hf 0 (.int .i64 ((at_ : Int) + 1)) rfl
set_option maxHeartbeats 2000000 in
set_option maxRecDepth 100000 in
theorem meter_ends (gf gl go : Nat) (w W : World) (from_ at_ : Nat) (least : Int) (sps : List S32) (h : SpSt 0 gf gl go w W from_ least sps) (hd : gf ≠ go ∧ gl ≠ go ∧ gf ≠ gl) (hg : w.heap.size ≤ gf ∧ w.heap.size ≤ gl ∧ w.heap.size ≤ go) (hat : at_ ≤ 200000) (hfr : from_ ≤ 200001) (hlen : sps.length ≤ 200000) :
    Calls Try.prog 104 #[.int .i64 at_, .pointer (some ⟨gf, 0, none⟩), .pointer (some ⟨gl, 0, none⟩), .pointer (some ⟨go, 0, none⟩)] W fun e W' => e = .returned (.tuple #[]) ∧ SpSt 0 gf gl go w W' (at_ + 1) least (sps ++ seg least from_ at_) := by
  obtain ⟨hf, hl, ⟨v, hv, hR⟩, hB⟩ := h
  obtain ⟨d1, d2, d3⟩ := hd
  obtain ⟨g1, g2, g3⟩ := hg
  have hu := Try.underlying32
  have iS : (Try.prog.info? 32).map (fun i => (i.zero, i.size, i.bytes)) = some (some (.agg #[.int .i64 0, .int .i64 0]), 2, 16) := by kernel_rfl
  have cf := (blk_cell hf 0).trans rfl
  have cl := (blk_cell hl 0).trans rfl
  have cv := (blk_cell hv 0).trans rfl
  have zf := blk_frozen hf 0
  have zv := blk_frozen hv 0
  have ew : wrap64 ((at_ : Int) + 1) = ((at_ + 1 : Nat) : Int) := by unfold wrap64; omega
  have es : wrap64 ((at_ : Int) - (from_ : Int)) = (at_ : Int) - from_ := by unfold wrap64; omega
  unfold seg
  by_cases c1 : (from_ : Int) < at_
  · have e1 : decide ((from_ : Int) < (at_ : Int)) = true := decide_eq_true c1
    by_cases c2 : least ≤ (at_ : Int) - from_
    · rw [if_pos ⟨c1, c2⟩]
      have e2 : decide (least ≤ (at_ : Int) - (from_ : Int)) = true := decide_eq_true c2
      go_enter Try.func104, Try.ntmps104
      go_wp2_with ((with_reducible refine gate_builtin (b := .append) (xs := #[.tmp 15, .tmp 19]) rfl ?_); at_builtin; refine Kd.R_append k32 (w0 := w) w.heap.size rfl (.tmp 15) (.tmp 19) 29 32 (.agg #[.int .i64 0, .int .i64 0]) 16 rfl Try.underlying29 iS rfl (by decide) (by omega) v sps ⟨from_, at_⟩ [.int .i64 from_, .int .i64 at_] (fun k_ => (k_ ≠ gf ∧ k_ ≠ gl) ∧ k_ ≠ go) (fun _ => False) rfl rfl (k32_mkM _ _ _ _) (fun _ hk => hk.elim) (fun k_ hk => by have := blk_lt hf; have := blk_lt hl; have := blk_lt hv; omega) hR hB hB.size (by omega) ?_; intro v8 w8 hR8 hB8 hg8 hat8; obtain ⟨A8, c8, rfl, hc8, hC8⟩ := Kd.R_reads hR8; have hf8 := blk_grown hf hg8 (fun e => (hR.1 gf e.symm).1.1 rfl); have hl8 := blk_grown hl hg8 (fun e => (hR.1 gl e.symm).1.2 rfl); have hv8 := blk_grown hv hg8 (fun e => (hR.1 go e.symm).2 rfl); have cv8 := (blk_cell hv8 0).trans rfl; have zv8 := blk_frozen hv8 0; have cf8 := (blk_cell hf8 0).trans rfl; have zf8 := blk_frozen hf8 0; clear cf cl cv zf zv)
      have hk := (KeepBut.refl w8 go none).set_ 0 (.slice A8 (sps ++ [(⟨from_, at_⟩ : S32)]).length c8)
      have hRk := Kd.R_keep hR8 hk (fun _ h => h.2)
      have hfk := (hk.2 gf (blk_lt hf8) d1 (by simp)).trans hf8
      have hlk := (hk.2 gl (blk_lt hl8) d2 (by simp)).trans hl8
      have hvk := blk_put hv8 0 (.slice A8 (sps ++ [(⟨from_, at_⟩ : S32)]).length c8) rfl
      have hBk := below_set (j := 0) (v := .slice A8 (sps ++ [(⟨from_, at_⟩ : S32)]).length c8) hB8 g3
      have hN := SpSt.next (base := 0) (at_ := at_) hfk hlk hvk hRk hBk ⟨d1, d2, d3⟩ g1
      rw [List.length_append, List.length_singleton] at hN
      go_end0
      exact ⟨rfl, hN⟩
    · rw [if_neg (fun h => c2 h.2), List.append_nil]
      have e2 : decide (least ≤ (at_ : Int) - (from_ : Int)) = false := decide_eq_false c2
      go_enter Try.func104, Try.ntmps104
      go_wp2_with fail
      go_end0
      exact ⟨rfl, SpSt.next hf hl hv hR hB ⟨d1, d2, d3⟩ g1⟩
  · rw [if_neg (fun h => c1 h.1), List.append_nil]
    have e1 : decide ((from_ : Int) < (at_ : Int)) = false := decide_eq_false c1
    go_enter Try.func104, Try.ntmps104
    go_wp2_with fail
    go_end0
    exact ⟨rfl, SpSt.next hf hl hv hR hB ⟨d1, d2, d3⟩ g1⟩
def spS (p : Nat → Bool) (least : Int) : Nat → Nat × List S32
  | 0 => (0, [])
  | i + 1 => if p i = true then spS p least i else (i + 1, (spS p least i).2 ++ seg least (spS p least i).1 i)
def spL (p : Nat → Bool) (least : Int) (n : Nat) : List S32 := (spS p least n).2 ++ seg least (spS p least n).1 n
theorem seg_len (least : Int) (a b : Nat) : (seg least a b).length ≤ 1 := by unfold seg; split <;> simp
theorem spS_bd (p : Nat → Bool) (least : Int) : ∀ i, (spS p least i).1 ≤ i ∧ (spS p least i).2.length ≤ i := by
  intro i
  induction i with
  | zero => exact ⟨Nat.le_refl _, Nat.le_refl _⟩
  | succ i ih =>
    unfold spS
    split
    · omega
    · refine ⟨Nat.le_refl _, ?_⟩
      have := seg_len least (spS p least i).1 i
      rw [List.length_append]; omega
set_option maxHeartbeats 2000000 in
set_option maxRecDepth 100000 in
theorem meter_spans (g : Nat) (lb : Array Value) (eg : ∀ args w, (callFunc g args).run Try.prog w = .ok (.enter g args) w) (n : Nat) (least : Int) (p : Nat → Bool) (w : World) (hn : n ≤ 200000)
    (hp : ∀ i, i < n → ∀ W, Below w.heap.size w W → Calls Try.prog g (#[.int .i64 i] ++ lb) W fun e W' => e = .returned (.bool (p i)) ∧ Below W.heap.size W W') :
    Calls Try.prog 55 #[.int .i64 n, .int .i64 least, .func (.func g) #[] lb] w fun e w' => ∃ v, e = .returned v ∧ Kd.R k32 32 w' w.heap.size (fun _ => True) v (spL p least n) ∧ Below w.heap.size w w' := by
  obtain ⟨w2, hw2⟩ : ∃ w2, w2 = ((w.alloc (.cells #[.int .i64 least] 3)).alloc (.cells #[.slice none 0 0] 29)).alloc (.cells #[.int .i64 0] 3) := ⟨_, rfl⟩
  have hB2 : Below w.heap.size w w2 := by rw [hw2]; exact below_alloc (below_alloc (below_alloc (Below.refl _ _) _) _) _
  have hl : w2.heap[w.heap.size]? = some (.cells #[.int .i64 least] 3 (0, 0)) := by rw [hw2]; exact blk_alloc (blk_alloc (blk_new w _) _) _
  have ho : w2.heap[w.heap.size + 1]? = some (.cells #[.slice none 0 0] 29 (0, 0)) := by
    rw [hw2]
    have := blk_alloc (blk_new (w.alloc (.cells #[.int .i64 least] 3)) (.cells #[.slice none 0 0] 29)) (.cells #[.int .i64 0] 3)
    rwa [World.size_alloc] at this
  have hf : w2.heap[w.heap.size + 1 + 1]? = some (.cells #[.int .i64 0] 3 (0, 0)) := by
    rw [hw2]
    have := blk_new ((w.alloc (.cells #[.int .i64 least] 3)).alloc (.cells #[.slice none 0 0] 29)) (.cells #[.int .i64 0] 3)
    rwa [World.size_alloc, World.size_alloc] at this
  have hst : SpSt 0 (w.heap.size + 1 + 1) w.heap.size (w.heap.size + 1) w w2 0 least [] := ⟨hf, hl, ⟨_, ho, Kd.R_nil _ _ _ _ _⟩, hB2⟩
  have HP := Aside0.mk hp
  clear hp hl ho hf hB2
  go_enter Try.func55, Try.ntmps55
  go_upto_region 4 with (fail)
  rw [← hw2]
  clear hw2
  have hd : w.heap.size + 1 + 1 ≠ w.heap.size + 1 ∧ w.heap.size ≠ w.heap.size + 1 ∧ w.heap.size + 1 + 1 ≠ w.heap.size := by omega
  have hg : w.heap.size ≤ w.heap.size + 1 + 1 ∧ w.heap.size ≤ w.heap.size ∧ w.heap.size ≤ w.heap.size + 1 := by omega
  generalize hgf : w.heap.size + 1 + 1 = gf at *
  generalize hgo : w.heap.size + 1 = go at *
  obtain ⟨gl, hgl⟩ : ∃ gl, gl = w.heap.size := ⟨_, rfl⟩
  rw [← hgl] at hst hd ⊢
  have hg' : w.heap.size ≤ gf ∧ w.heap.size ≤ gl ∧ w.heap.size ≤ go := by omega
  have HD := Aside0.mk hd
  have HG := Aside0.mk hg'
  clear hgf hgo hgl hd hg hg'
  go_wp2_with fail
  go_loopw [13] (fun v wr => ∃ i : Nat, i ≤ n ∧ v = .int .i64 i ∧ SpSt 0 gf gl go w wr (spS p least i).1 least (spS p least i).2) (fun v _ => n - (intOf v).toNat)
  case atStart => exact ⟨0, Nat.zero_le _, rfl, hst⟩
  case round =>
    clear hst
    obtain ⟨i, hi, rfl, hst⟩ := hrel
    have hbd := spS_bd p least i
    by_cases hlt : i < n
    · have hc := decide_eq_true (show (i : Int) < (n : Int) by omega)
      have HPI := Aside0.mk (HP.out i hlt wr hst.b)
      have HNX := Lib.hid (show spS p least (i + 1) = if p i = true then spS p least i else (i + 1, (spS p least i).2 ++ seg least (spS p least i).1 i) from rfl)
      go_wp2_with fail
      refine HPI.out.mono ?_
      rintro e w3 ⟨rfl, hb3⟩
      have hst3 := hst.below hb3
      clear HPI
      generalize p i = b at HNX ⊢
      generalize spS p least i = st at *
      cases b with
      | true =>
        go_wp2_with fail
        go_roundw
        case rel => exact ⟨i + 1, by omega, by go_num, by rw [HNX.out]; simp only [if_true]; exact hst3⟩
        case measure => simp [intOf]; omega
      | false =>
        go_wp2_with fail
        refine (meter_ends gf gl go w w3 st.1 i least st.2 hst3 HD.out HG.out (by omega) (by omega) (by omega)).mono ?_
        rintro e w4 ⟨rfl, hst4⟩
        go_wp2_with fail
        go_roundw
        case rel => exact ⟨i + 1, by omega, by go_num, by rw [HNX.out, if_neg (by decide)]; exact hst4⟩
        case measure => simp [intOf]; omega
    · obtain rfl : i = n := by omega
      have hc := decide_eq_false (show ¬ (i : Int) < (i : Int) by omega)
      go_wp2_with fail
      refine (meter_ends gf gl go w wr (spS p least i).1 i least (spS p least i).2 hst HD.out HG.out (by omega) (by omega) (by omega)).mono ?_
      rintro e w4 ⟨rfl, hst4⟩
      obtain ⟨v, hv, hR⟩ := hst4.o
      have hB4 := hst4.b
      obtain ⟨A8, c8, rfl, hc8, hC8⟩ := Kd.R_reads hR
      have cv := (blk_cell hv 0).trans rfl
      clear hst hst4 hC8
      rw [List.length_append] at hR
      go_wp2_with fail
      go_ret
      exact ⟨_, rfl, Kd.R_mono hR (fun _ _ => trivial), hB4⟩
end

-- NOT PRINTED: function 55 (meter_spans)

/-! ### meter_size: function 56 -/
def meter_size.f (l0 : List (List Int)) : Option (Int) := if (l0.length : Int) = 0 then (some 0) else (if 0 < (l0.length : Int) then (some ((rd_L1 l0 0).length : Int)) else (none))
set_option maxHeartbeats 8000000 in
set_option maxRecDepth 100000 in
theorem meter_size.calls (A0 : Option Addr) (c0 : Nat) (l0 : List (List Int)) (r : Int) (w : World) (hr0 : Kd.C (Kd.slice 3 (Kd.int .i64)) w A0 l0.length l0) (hc0 : l0.length ≤ c0) (h : meter_size.f l0 = some r) :
    Calls Try.prog 56 #[.slice A0 l0.length c0] w fun e w' => e = .returned (.int .i64 r) ∧ Drawn0 w w' := by
  have HR0 := Aside0.mk hr0
  have HC0 := Aside0.mk hc0
  clear hr0 hc0
  have H : (if (l0.length : Int) = 0 then (some 0) else (if 0 < (l0.length : Int) then (some ((rd_L1 l0 0).length : Int)) else (none))) = some r := h
  clear h
  by_cases c2 : (l0.length : Int) = 0
  · rw [if_pos c2] at H
    have c2b0 : ((l0.length : Int) == 0) = true := beq_iff_eq.mpr c2
    have c2b1 : ((l0.length : Int) != 0) = false := bne_eq_false_iff_eq.mpr c2
    clear c2
    obtain rfl := Option.some.inj H
    go_enter Try.func56, Try.ntmps56
    go_wp2
    go_ret
    exact ⟨by first | rfl | (simp; done) | (simp [*]; done), by repeat (first | exact Drawn0.refl _ | apply Drawn0.step)⟩
  · rw [if_neg c2] at H
    have c2b0 : ((l0.length : Int) == 0) = false := beq_eq_false_iff_ne.mpr c2
    have c2b1 : ((l0.length : Int) != 0) = true := bne_iff_ne.mpr c2
    have c2b2 : ¬ (l0 = []) := fun h_ => c2 (by rw [h_]; rfl)
    by_cases c3 : 0 < (l0.length : Int)
    · rw [if_pos c3] at H
      have c3b0 : decide (0 < (l0.length : Int)) = true := decide_eq_true c3
      have c3b1 : decide (0 < l0.length) = true := decide_eq_true (by omega)
      clear c3
      obtain rfl := Option.some.inj H
      have p108 : 0 ≤ (0 : Int) := (by omega)
      have q108 : 0 < (l0.length : Int) := of_decide_eq_true (by first | (with_reducible assumption) | assumption)
      obtain ⟨ad108, A108_0, c108_0, e108, hx108_0, hl108_0, hi108_0⟩ := at_L1 HR0.out 0 p108 q108
      cases e108
      have qi108 : (0 < l0.length) = True := eq_true (by omega)
      (try rw [show ((0 : Int)).toNat = 0 from rfl] at hx108_0)
      (try rw [Addr.add_zero'] at hx108_0)
      have HR108_0 := Aside0.mk hi108_0
      have HC108_0 := Aside0.mk hl108_0
      clear hi108_0 hl108_0
      replace p108 := eq_true p108
      replace q108 := eq_true q108
      go_enter Try.func56, Try.ntmps56
      go_wp2
      go_ret
      exact ⟨by first | rfl | (simp; done) | (simp [*]; done), by repeat (first | exact Drawn0.refl _ | apply Drawn0.step)⟩
    · rw [if_neg c3] at H
      exact absurd H (by simp)

/-! ### meter_Quiet: function 13 -/
section
open IdxX
theorem ms_store_func {P : Program} {w : World} {a : Addr} {m : Mode} (f : Fn) (cs lb : Array Value) : (store a (.func f cs lb) m).run P w = stored P w a (.func f cs lb) m := run_store P w a _ m rfl
attribute [local go_sem] ms_store_func
theorem st2_blk {W : World} {g : Nat} {u0 u1 : Value} {ty : Nat} (h : W.heap[g]? = some (.cells #[u0, u1] ty (0, 0))) (v0 v1 : Value) : ((W.setCell ⟨g, 0, none⟩ v0).setCell ⟨g, 1, none⟩ v1).heap[g]? = some (.cells #[v0, v1] ty (0, 0)) :=
  blk_put (cs := #[v0, u1]) (blk_put (cs := #[u0, u1]) h 0 _ rfl) 1 _ rfl
def sizeM (l : List (List Int)) : Nat := (l.getD 0 []).length
def quietL (l : List (List Int)) (floor least : Int) : List S32 := if rightM l = true ∧ (0 ≤ floor ∧ floor ≤ 32768) ∧ 1 ≤ least then spL (fun i => !(loudAt l floor i)) least (sizeM l) else []
def meter_Quiet.f (l0 : List (List Int)) (a1 a2 : Int) : Option (List S32) := if sizeM l0 ≤ 200000 then some (quietL l0 a1 a2) else none
theorem right_rows {l : List (List Int)} (h : rightM l = true) : ∀ x, x ∈ l → x.length = sizeM l ∧ ∀ y, y ∈ x → -32768 ≤ y ∧ y ≤ 32767 := by
  intro x hx
  unfold rightM at h
  rw [Bool.and_eq_true, List.all_eq_true] at h
  have := h.2 x hx
  unfold rowM at this
  rw [Bool.and_eq_true, decide_eq_true_eq, Bool.not_eq_true', List.any_eq_false] at this
  refine ⟨this.1, fun y hy => ?_⟩
  have h2 := this.2 y hy
  unfold okS at h2
  simp only [Bool.not_eq_true', Bool.and_eq_false_iff, decide_eq_false_iff_not] at h2
  omega
theorem size_f (l : List (List Int)) : meter_size.f l = some ((sizeM l : Nat) : Int) := by
  unfold meter_size.f sizeM
  cases l with
  | nil => rw [if_pos (by rfl)]; rfl
  | cons x l => rw [if_neg (by rw [List.length_cons]; omega), if_pos (by rw [List.length_cons]; omega)]; rfl
theorem floored_f (x : Int) : meter_floored.f x = some (decide (0 ≤ x ∧ x ≤ 32768)) := by
  unfold meter_floored.f
  by_cases h : x ≥ 0
  · rw [if_pos h]; congr 1; rw [decide_eq_decide]; omega
  · rw [if_neg h]; congr 1; symm; rw [decide_eq_false_iff_not]; omega
set_option maxHeartbeats 2000000 in
set_option maxRecDepth 100000 in
theorem meter_Quiet.calls (A0 : Option Addr) (c0 : Nat) (l0 : List (List Int)) (a1 a2 : Int) (r : List S32) (w : World) (hr0 : Kd.C (Kd.slice 3 (Kd.int .i64)) w A0 l0.length l0) (hc0 : l0.length ≤ c0) (h : meter_Quiet.f l0 a1 a2 = some r) :
    Calls Try.prog 13 #[.slice A0 l0.length c0, .int .i64 a1, .int .i64 a2] w fun e w' => ∃ v0_ : Value, e = .returned v0_ ∧ Kd.R k32 32 w' w.heap.size (fun _ => True) v0_ r ∧ Below w.heap.size w w' := by
  unfold meter_Quiet.f at h
  by_cases hs : sizeM l0 ≤ 200000
  · rw [if_pos hs] at h
    obtain rfl := Option.some.inj h
    clear h
    unfold quietL
    have hR := fun W => meter_Right.calls A0 c0 l0 (rightM l0) W
    cases hb : rightM l0 with
    | false =>
      rw [if_neg (fun h => by cases h.1)]
      have HR := Aside0.mk (meter_Right.calls A0 c0 l0 false w hr0 hc0 (by unfold meter_Right.f; rw [hb]))
      clear hR hb hr0 hc0
      generalize l0.length = n at *
      go_enter Try.func13, Try.ntmps13
      go_wp2_with (go_at_call 20; refine HR.out.mono ?_; rintro e w1 ⟨rfl, hb1⟩)
      go_ret
      exact ⟨_, rfl, Kd.R_nil _ _ _ _ _, hb1⟩
    | true =>
      have HR := Aside0.mk (meter_Right.calls A0 c0 l0 true w hr0 hc0 (by unfold meter_Right.f; rw [hb]))
      have hfl := floored_f a1
      by_cases c1 : 0 ≤ a1 ∧ a1 ≤ 32768
      · rw [decide_eq_true c1] at hfl
        by_cases c2 : 1 ≤ a2
        · rw [if_pos ⟨rfl, c1, c2⟩]
          have d2 : decide (a2 < 1) = false := decide_eq_false (by omega)
          have hrows := right_rows hb
          have HSZ := Aside0.mk (fun W (hW : Below w.heap.size w W) => meter_size.calls A0 c0 l0 _ W (Kd.C_below hr0 hW) hc0 (size_f l0))
          have HROW := Aside0.mk hrows
          have HC := Aside0.mk hr0
          clear hR hb hrows c1 c2 hr0
          obtain ⟨n, hn⟩ : ∃ n, n = l0.length := ⟨_, rfl⟩
          rw [← hn] at HR hc0 ⊢
          have HN := Lib.hid hn
          clear hn
          have hu68 := Try.underlying68
          go_enter Try.func13, Try.ntmps13
          go_upto_region 4 with (first
            | (go_at_call 20; refine HR.out.mono ?_; rintro e w1 ⟨rfl, hb1⟩)
            | (go_at_call 53; refine (meter_floored.calls _ _ _ hfl).mono ?_; rintro e w2 ⟨rfl, ⟨n2, rfl⟩⟩)
            | (go_at_call 54; refine (meter_loud _ _ _ _ _).mono ?_; rintro e w3 ⟨rfl, rfl⟩)
            | ((with_reducible refine gate_dst (N := 7) rfl ?_); refine box_event ?hg (N := 7) ?hd (cs := #[.nilFunc]) (t := 68) ?hr ?_; (case hd => rfl); (case hg => rfl); (case hr => first | (go_simp; done) | (go_simp; rfl)); intro gb hgb w4 hbx hb4; have hcz := (blk_cell hbx 0).trans rfl; have hfz := blk_frozen hbx 0; have HGB := Lib.hid hgb; clear hgb))
          have hB4 := below_step (below_alloc (below_alloc (pw_below_drewN hb1 n2) (.cells #[.slice A0 n c0] 22)) (.cells #[.int .i64 a1] 3)) hb4
          have h22 : w4.heap[w1.heap.size]? = some (.cells #[.slice A0 n c0] 22 (0, 0)) := blk_below (blk_alloc (blk_new (w1.drewN n2) (.cells #[.slice A0 n c0] 22)) (.cells #[.int .i64 a1] 3)) hb4
          have h3 : w4.heap[w1.heap.size + 1]? = some (.cells #[.int .i64 a1] 3 (0, 0)) := by
            have := blk_below (blk_new ((w1.drewN n2).alloc (.cells #[.slice A0 n c0] 22)) (.cells #[.int .i64 a1] 3)) hb4
            rwa [World.size_alloc] at this
          have hgb : gb = w1.heap.size + 1 + 1 := by have := HGB.out; rw [World.size_alloc, World.size_alloc] at this; exact this
          have hgw : w.heap.size ≤ gb := by have := hb1.size; omega
          have hk5 := (KeepBut.refl w4 gb none).set_ 0 (.func (.func 101) #[] #[.pointer (some ⟨w1.heap.size, 0, none⟩), .pointer (some ⟨w1.heap.size + 1, 0, none⟩)])
          have hF5 := blk_put hbx 0 (.func (.func 101) #[] #[.pointer (some ⟨w1.heap.size, 0, none⟩), .pointer (some ⟨w1.heap.size + 1, 0, none⟩)]) rfl
          have h22k := (hk5.2 _ (blk_lt h22) (by omega) (by simp)).trans h22
          have h3k := (hk5.2 _ (blk_lt h3) (by omega) (by simp)).trans h3
          have hB5 := below_set (j := 0) (v := (.func (.func 101) #[] #[.pointer (some ⟨w1.heap.size, 0, none⟩), .pointer (some ⟨w1.heap.size + 1, 0, none⟩)])) hB4 hgw
          clear hgb hgw hk5 h22 h3 hB4 hbx hb4 hcz hfz HGB
          generalize w4.setCell ⟨gb, 0, none⟩ (.func (.func 101) #[] #[.pointer (some ⟨w1.heap.size, 0, none⟩), .pointer (some ⟨w1.heap.size + 1, 0, none⟩)]) = w5 at *
          generalize w1.heap.size + 1 = B2 at *
          obtain ⟨B, hBB⟩ : ∃ B, B = w1.heap.size := ⟨_, rfl⟩
          rw [← hBB] at hF5 h22k ⊢
          clear hBB hb1
          have hsp : ∀ W, Below w5.heap.size w5 W → Calls Try.prog 55 #[.int .i64 (sizeM l0 : Nat), .int .i64 a2, .func (.func 57) #[] #[.pointer (some ⟨gb, 0, none⟩)]] W fun e w' => ∃ v, e = .returned v ∧ Kd.R k32 32 w' W.heap.size (fun _ => True) v (spL (fun i => !(loudAt l0 a1 i)) a2 (sizeM l0)) ∧ Below W.heap.size W w' := by
            intro W hW
            refine meter_spans 57 #[.pointer (some ⟨gb, 0, none⟩)] (enters_of Try.func57 (by kernel_rfl) rfl) (sizeM l0) a2 _ W hs (fun i hi W2 hW2 => ?_)
            have hWW := below_step hW hW2
            have hn := HN.out
            subst hn
            exact meter_quiet1 101 _ i gb (loudAt l0 a1 i) W2 ((blk_cell (blk_below hF5 hWW) 0).trans rfl)
              (meter_loud1 A0 c0 l0 a1 i B B2 W2 (Kd.C_below HC.out (below_step hB5 hWW)) (fun x hx => by rw [(HROW.out x hx).1]; exact hi) (fun x hx => (HROW.out x hx).2) (blk_below h22k hWW) (blk_below h3k hWW))
              (enters_of Try.func101 (by kernel_rfl) rfl)
          have HSP := Aside0.mk hsp
          have hsz := HSZ.out w5 hB5
          rw [← HN.out] at hsz
          have HZ := Aside0.mk hsz
          clear hsp hsz hF5 h22k h3k HSZ HROW HC
          go_wp2_with (first
            | (go_at_call 56; refine HZ.out.mono ?_; rintro e w6 ⟨rfl, ⟨n6, rfl⟩⟩)
            | (go_at_call 55; refine (HSP.out _ (pw_below_drewN (Below.refl _ _) n6)).mono ?_; rintro e w7 ⟨v7, rfl, hR7, hb7⟩))
          go_ret
          exact ⟨_, rfl, Kd.R_lower hR7 hB5.size, below_step hB5 (Below.trans (pw_below_drewN (Below.refl _ _) n6) hb7)⟩
        · rw [if_neg (fun h => c2 h.2.2)]
          have d2 : decide (a2 < 1) = true := decide_eq_true (by omega)
          clear hR hb hr0 hc0
          generalize l0.length = n at *
          go_enter Try.func13, Try.ntmps13
          go_wp2_with (first
            | (go_at_call 20; refine HR.out.mono ?_; rintro e w1 ⟨rfl, hb1⟩)
            | (go_at_call 53; refine (meter_floored.calls _ _ _ hfl).mono ?_; rintro e w2 ⟨rfl, ⟨n2, rfl⟩⟩))
          go_ret
          exact ⟨_, rfl, Kd.R_nil _ _ _ _ _, pw_below_drewN hb1 n2⟩
      · rw [if_neg (fun h => c1 h.2.1)]
        rw [decide_eq_false c1] at hfl
        clear hR hb hr0 hc0
        generalize l0.length = n at *
        go_enter Try.func13, Try.ntmps13
        go_wp2_with (first
          | (go_at_call 20; refine HR.out.mono ?_; rintro e w1 ⟨rfl, hb1⟩)
          | (go_at_call 53; refine (meter_floored.calls _ _ _ hfl).mono ?_; rintro e w2 ⟨rfl, ⟨n2, rfl⟩⟩))
        go_ret
        exact ⟨_, rfl, Kd.R_nil _ _ _ _ _, pw_below_drewN hb1 n2⟩
  · rw [if_neg hs] at h; cases h
end

end Go.Proofs.Ytagffnckmlfcnaa.S
