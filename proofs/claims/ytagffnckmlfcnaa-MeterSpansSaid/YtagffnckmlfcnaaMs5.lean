-- Written for this claim by a program of the session (myprint.py), out of the translation's own print; Lean checks it.
import Derived.Test.YtagffnckmlfcnaaMs0
import Derived.Test.YtagffnckmlfcnaaMs1
import Derived.Test.YtagffnckmlfcnaaMs2
import Derived.Test.YtagffnckmlfcnaaMs3
import Derived.Test.YtagffnckmlfcnaaMs4
namespace Go.Proofs.Ytagffnckmlfcnaa.S
open Go.RowKit Go.Proofs.YtagffnckmlfcnaaW.PrintWords Go.Proofs.YtagffnckmlfcnaaW.PrintLast Go.Proofs.YtagffnckmlfcnaaW.PrintMore
attribute [local go_sem] max2_int min2_int max_two min_two max_three min_three max_four min_four   -- for this text's walks alone
set_option linter.unusedVariables false
set_option linter.unusedSimpArgs false

attribute [local go_sem high] eqA44
/-! ### meter_Of: function 15 -/
section
open IdxX
def hearS (s : Int × Int × Int) (x : Int) : Int × Int × Int := (if s.1 < iabs x then iabs x else s.1, s.2.1 + x * x, s.2.2 + 1)
def Hears0.T0 : Bool × List (List Nat × List Nat) := (true, [([], []), ([], []), ([1], [1]), ([2], [2]), ([3], [3]), ([], []), ([5], [5]), ([4, 6], [4, 6]), ([0, 0, 1, 2, 3, 4, 5, 6, 7], [0]), ([8, 0, 1, 2, 3, 4, 5, 6, 7], [8]), ([9, 7, 6, 0, 1, 2, 3, 4, 5, 6, 7], [7, 9])])
def Hears0.B0 : List Nat := [0, 0, 2, 6, 14, 0, 32, 126, 255, 511, 1023]
theorem Hears0.tab0 : rtab .any (opsOf Try.f58 0) = Hears0.T0 := by kernel_rfl
theorem Hears0.bits0 : waitsOk Hears0.T0.2 Hears0.B0 = true := by kernel_rfl
/- 0:move>4; 1:move>5; 2:nilCheck>6; 3:fieldAddr>7; 4:load>8; 5:move>9; 6:call>10; 7:call>11; 8:nilCheck>12; 9:fieldAddr>13; 10:store>None -/
set_option maxHeartbeats 2000000 in
set_option maxRecDepth 100000 in
theorem meter_hears (gm : Nat) (s : Int × Int × Int) (x : Int) (w W : World) (h : W.heap[gm]? = some (.cells #[.int .i64 s.1, .int .i64 s.2.1, .int .i64 s.2.2] 72 (0, 0))) (hB : Below w.heap.size w W) (hg : w.heap.size ≤ gm)
    (hx : -32768 ≤ x ∧ x ≤ 32767) (h0 : 0 ≤ s.1 ∧ s.1 ≤ 32768) (h1 : 0 ≤ s.2.1 ∧ s.2.1 ≤ 1000000000000000) (h2 : 0 ≤ s.2.2 ∧ s.2.2 ≤ 1000000) :
    Calls Try.prog 58 #[.pointer (some ⟨gm, 0, none⟩), .int .i64 x] W fun e W' => e = .returned (.tuple #[]) ∧ W'.heap[gm]? = some (.cells #[.int .i64 (hearS s x).1, .int .i64 (hearS s x).2.1, .int .i64 (hearS s x).2.2] 72 (0, 0)) ∧ Below w.heap.size w W' ∧ ∀ k o, k ≠ gm → W.heap[k]? = some o → W'.heap[k]? = some o := by
  obtain ⟨pk, sm, cn⟩ := s
  have ha := abs_f x (by omega) (by omega)
  have c0 := (blk_cell h 0).trans (show _ = some (Value.int .i64 pk) from rfl)
  have f0 := blk_frozen h 0
  have hxx : 0 ≤ x * x ∧ x * x ≤ 1073741824 := by
    constructor
    · rcases Int.le_total 0 x with h | h
      · exact Int.mul_nonneg h h
      · have := Int.mul_nonneg (Int.neg_nonneg_of_nonpos h) (Int.neg_nonneg_of_nonpos h); rwa [Int.neg_mul_neg] at this
    · rcases Int.le_total 0 x with h | h
      · exact Int.le_trans (Int.mul_le_mul (show x ≤ 32768 by omega) (show x ≤ 32768 by omega) h (by omega)) (by decide)
      · have := Int.mul_le_mul (show -x ≤ 32768 by omega) (show -x ≤ 32768 by omega) (by omega) (by omega)
        rw [Int.neg_mul_neg] at this
        exact Int.le_trans this (by decide)
  have e1 : wrap64 (x * x) = x * x := by unfold wrap64; omega
  have e2 : wrap64 (sm + x * x) = sm + x * x := by unfold wrap64; simp only at h1; omega
  have e3 : wrap64 (cn + 1) = cn + 1 := by unfold wrap64; simp only at h2; omega
  show Calls Try.prog _ _ _ fun e W' => e = .returned (.tuple #[]) ∧ W'.heap[gm]? = some (.cells #[.int .i64 (if pk < iabs x then iabs x else pk), .int .i64 (sm + x * x), .int .i64 (cn + 1)] 72 (0, 0)) ∧ Below w.heap.size w W' ∧ ∀ k o, k ≠ gm → W.heap[k]? = some o → W'.heap[k]? = some o
  obtain ⟨M, hM⟩ : ∃ M, M = (if pk < iabs x then iabs x else pk) := ⟨_, rfl⟩
  rw [← hM]
  have hMx := hM.symm
  clear hM
  go_enter Try.func58, Try.ntmps58
  go_wp2_with fail
  refine start_ (n := 11) (S := fun w' => w'.cell? ⟨gm, 0, none⟩ = some (.int .i64 pk)) (ds := [10]) #[false, false, false, false, false, false, false, false, false, false, false] (by kernel_rfl) rfl rfl c0 (fun hHeld => ?_); refine with_tabW Hears0.tab0 Hears0.bits0 (fun HT_ HW_ => ?_)
  refine pure_ (i := 0) (N := (some 4)) (v := ?_) (a' := ?_) #[true, false, false, false, false, false, false, false, false, false, false] rfl rfl (any_of HT_.out (by kernel_rfl)) (fun _ _ _ h => h) (Or.inl ⟨by rfl, ?_⟩) ?_ ?_
  rotate_left
  · intro w'
    go_simp
    with_reducible rfl
  rotate_left
  · simp only [Act.put, List.setIfInBounds_toArray, List.set_cons_zero, List.set_cons_succ, i64_w, i32_w]
    rfl
  refine pure_ (i := 1) (N := (some 5)) (v := ?_) (a' := ?_) #[true, true, false, false, false, false, false, false, false, false, false] rfl rfl (any_of HT_.out (by kernel_rfl)) (fun _ _ _ h => h) (Or.inl ⟨by rfl, ?_⟩) ?_ ?_
  rotate_left
  · intro w'
    go_simp
    with_reducible rfl
  rotate_left
  · simp only [Act.put, List.setIfInBounds_toArray, List.set_cons_zero, List.set_cons_succ, i64_w, i32_w]
    rfl
  refine pure_ (i := 2) (N := (some 6)) (v := ?_) (a' := ?_) #[true, true, true, false, false, false, false, false, false, false, false] rfl rfl (any_of HT_.out (by kernel_rfl)) (fun _ _ _ h => h) (Or.inl ⟨by rfl, ?_⟩) ?_ ?_
  rotate_left
  · intro w'
    go_simp
    with_reducible rfl
  rotate_left
  · simp only [Act.put, List.setIfInBounds_toArray, List.set_cons_zero, List.set_cons_succ, i64_w, i32_w]
    rfl
  refine pure_ (i := 3) (N := (some 7)) (v := ?_) (a' := ?_) #[true, true, true, true, false, false, false, false, false, false, false] rfl rfl (any_of HT_.out (by kernel_rfl)) (fun _ _ _ h => h) (Or.inl ⟨by rfl, ?_⟩) ?_ ?_
  rotate_left
  · intro w'
    go_simp
    with_reducible rfl
  rotate_left
  · simp only [Act.put, List.setIfInBounds_toArray, List.set_cons_zero, List.set_cons_succ, i64_w, i32_w]
    rfl
  refine pure_ (i := 5) (N := (some 9)) (v := ?_) (a' := ?_) #[true, true, true, true, false, true, false, false, false, false, false] rfl rfl (any_of HT_.out (by kernel_rfl)) (fun _ _ _ h => h) (Or.inl ⟨by rfl, ?_⟩) ?_ ?_
  rotate_left
  · intro w'
    go_simp
    with_reducible rfl
  rotate_left
  · simp only [Act.put, List.setIfInBounds_toArray, List.set_cons_zero, List.set_cons_succ, i64_w, i32_w]
    rfl
  refine take_ (i := 4) (N := (some 8)) (v := ?_) (a' := ?_) #[true, true, true, true, true, true, false, false, false, false, false] rfl rfl (take_ofW HT_.out HW_.out (by kernel_rfl)) (fun _ _ _ h => h) (Or.inl ⟨by rfl, ?_⟩) hHeld ?_ ?_
  rotate_left
  · intro w' hS_
    go_simp
    go_simp; with_reducible rfl
  rotate_left
  · simp only [Act.put, List.setIfInBounds_toArray, List.set_cons_zero, List.set_cons_succ, i64_w, i32_w]
    rfl
  refine one_ (i := 6) (N := (some 10)) #[true, true, true, true, true, true, true, false, false, false, false] rfl rfl (one_of HT_.out (by kernel_rfl)) (by decide) (fun K hK => ?_)
  refine goes_ Try.func103 (by kernel_rfl) rfl #[.int .i64 x] (by rfl) rfl rfl (by (try simp only [List.map_toArray, List.map_cons, List.map_nil]); first | done | rfl) ?_
  refine (mabs_Abs.calls 3 _ _ _ ha).mono ?_
  rintro e w1 ⟨rfl, hb1⟩
  refine ⟨_, rfl, ?_⟩
  have h1c := blk_below (show W.drew.heap[gm]? = some _ from h) hb1
  have c01 := (blk_cell h1c 0).trans (show _ = some (Value.int .i64 pk) from rfl)
  have f01 := blk_frozen h1c 0
  refine hK.out _ _ c01 (fun hHeld => ?_)
  clear hK K
  refine norm_ (a' := ?_) ?_ ?_
  rotate_left
  · show Act.put _ (some 10) _ = _
    simp only [Act.put, List.setIfInBounds_toArray, List.set_cons_zero, List.set_cons_succ, i64_w, i32_w]
    rfl
  refine pure_ (i := 7) (N := (some 11)) (v := ?_) (a' := ?_) #[true, true, true, true, true, true, true, true, false, false, false] rfl rfl (any_of HT_.out (by kernel_rfl)) (fun _ _ _ h => h) (Or.inl ⟨by rfl, ?_⟩) ?_ ?_
  rotate_left
  · intro w'
    go_simp
    with_reducible rfl
  rotate_left
  · simp only [Act.put, List.setIfInBounds_toArray, List.set_cons_zero, List.set_cons_succ, i64_w, i32_w]
    rfl
  refine pure_ (i := 8) (N := (some 12)) (v := ?_) (a' := ?_) #[true, true, true, true, true, true, true, true, true, false, false] rfl rfl (any_of HT_.out (by kernel_rfl)) (fun _ _ _ h => h) (Or.inl ⟨by rfl, ?_⟩) ?_ ?_
  rotate_left
  · intro w'
    go_simp
    with_reducible rfl
  rotate_left
  · simp only [Act.put, List.setIfInBounds_toArray, List.set_cons_zero, List.set_cons_succ, i64_w, i32_w]
    rfl
  refine pure_ (i := 9) (N := (some 13)) (v := ?_) (a' := ?_) #[true, true, true, true, true, true, true, true, true, true, false] rfl rfl (any_of HT_.out (by kernel_rfl)) (fun _ _ _ h => h) (Or.inl ⟨by rfl, ?_⟩) ?_ ?_
  rotate_left
  · intro w'
    go_simp
    with_reducible rfl
  rotate_left
  · simp only [Act.put, List.setIfInBounds_toArray, List.set_cons_zero, List.set_cons_succ, i64_w, i32_w]
    rfl
  refine last_ (i := 10) (N := none) #[true, true, true, true, true, true, true, true, true, true, true] rfl rfl (one_of HT_.out (by kernel_rfl)) (by decide) (fun K hK => ?_)
  go_simp
  refine hK.out _ _ ?_
  clear hK K
  refine done_ (done_of HT_.out (by kernel_rfl)) ?_
  have hB1 := below_step (below_drew hB) hb1
  have hk1 : ∀ k o, k ≠ gm → W.heap[k]? = some o → w1.heap[k]? = some o := fun k o _ hk => blk_below (show W.drew.heap[k]? = some o from hk) hb1
  clear hMx
  have hd2 := blk_put (cs := #[.int .i64 pk, .int .i64 sm, .int .i64 cn]) h1c 0 (.int .i64 M) rfl
  have hK2 := (KeepBut.refl w1 gm none).set_ 0 (.int .i64 M)
  have hB2 := below_set (j := 0) (v := .int .i64 M) hB1 hg
  generalize w1.setCell ⟨gm, 0, none⟩ (.int .i64 M) = w2 at *
  have k1 := (blk_cell hd2 1).trans (show _ = some (Value.int .i64 sm) from rfl)
  have f1 := blk_frozen hd2 1
  clear c0 f0 c01 f01 hHeld ha h h1c
  go_upto_region 2 with (fail)
  have hd3 := blk_put (cs := #[.int .i64 M, .int .i64 sm, .int .i64 cn]) hd2 1 (.int .i64 (sm + x * x)) rfl
  have hK3 := (KeepBut.refl w2 gm none).set_ 1 (.int .i64 (sm + x * x))
  have hB3 := below_set (j := 1) (v := .int .i64 (sm + x * x)) hB2 hg
  generalize w2.setCell ⟨gm, 1, none⟩ (.int .i64 (sm + x * x)) = w3 at *
  have k2 := (blk_cell hd3 2).trans (show _ = some (Value.int .i64 cn) from rfl)
  have f2 := blk_frozen hd3 2
  clear k1 f1
  go_wp2_with fail
  go_end0
  refine ⟨rfl, ?_, below_set hB3 hg, fun k o hk ho => ?_⟩
  · exact blk_put (cs := #[.int .i64 M, .int .i64 (sm + x * x), .int .i64 cn]) hd3 2 (.int .i64 (cn + 1)) rfl
  · have hK4 := (KeepBut.refl w3 gm none).set_ 2 (.int .i64 (cn + 1))
    have o1 := hk1 k o hk ho
    have o2 := (hK2.2 k (Array.getElem?_eq_some_iff.1 o1).1 hk (by simp)).trans o1
    have o3 := (hK3.2 k (Array.getElem?_eq_some_iff.1 o2).1 hk (by simp)).trans o2
    exact (hK4.2 k (Array.getElem?_eq_some_iff.1 o3).1 hk (by simp)).trans o3
def Level3.T3 : Bool × List (List Nat × List Nat) := (true, [([], []), ([0], [0]), ([1], [1]), ([2], [2]), ([], []), ([4], [4]), ([5], [5]), ([6], [6]), ([], []), ([8], [8]), ([9], [9]), ([10], [10]), ([7, 11], [7, 11]), ([12], [12]), ([3, 13], [3, 13]), ([14, 13, 0, 1, 2, 3, 4, 5, 6, 7, 8, 9, 10, 11, 12, 13, 14], [14])])
def Level3.B3 : List Nat := [0, 1, 3, 7, 0, 16, 48, 112, 0, 256, 768, 1792, 4080, 8176, 16383, 32767]
theorem Level3.tab3 : rtab .any (opsOf Try.f59 3) = Level3.T3 := by kernel_rfl
theorem Level3.bits3 : waitsOk Level3.T3.2 Level3.B3 = true := by kernel_rfl
/- 0:move>9; 1:nilCheck>10; 2:fieldAddr>11; 3:load>12; 4:move>13; 5:nilCheck>14; 6:fieldAddr>15; 7:load>16; 8:move>17; 9:nilCheck>18; 10:fieldAddr>19; 11:load>20; 12:binOp>21; 13:call>22; 14:build>23; 15:store>None -/
set_option maxHeartbeats 2000000 in
set_option maxRecDepth 100000 in
theorem meter_level0 (gm : Nat) (pk sm : Int) (W : World) (h : W.heap[gm]? = some (.cells #[.int .i64 pk, .int .i64 sm, .int .i64 0] 72 (0, 0))) :
    Calls Try.prog 59 #[.pointer (some ⟨gm, 0, none⟩)] W fun e W' => e = .returned (.agg #[.int .i64 0, .int .i64 0]) ∧ Below W.heap.size W W' := by
  have hu := Try.underlying35
  have hgo := blk_new W (.cells #[.int .i64 0, .int .i64 0] 35)
  have hB0 := below_alloc (Below.refl W.heap.size W) (.cells #[.int .i64 0, .int .i64 0] 35)
  have h2 := blk_alloc h (.cells #[.int .i64 0, .int .i64 0] 35)
  have hg9 := st2_blk hgo (.int .i64 0) (.int .i64 0)
  have hB9 := below_set (j := 1) (v := .int .i64 0) (below_set (j := 0) (v := .int .i64 0) hB0 (Nat.le_refl _)) (Nat.le_refl _)
  obtain ⟨W1, hW1⟩ : ∃ W1, W1 = W.alloc (.cells #[.int .i64 0, .int .i64 0] 35) := ⟨_, rfl⟩
  rw [← hW1] at hgo h2 hg9 hB9
  have c2 := (blk_cell h2 2).trans (show _ = some (Value.int .i64 0) from rfl)
  have z0 := (blk_cell hgo 0).trans (show _ = some (Value.int .i64 0) from rfl)
  have z1 := (blk_cell hgo 1).trans (show _ = some (Value.int .i64 0) from rfl)
  have fz0 := blk_frozen hgo 0
  have fz1 := blk_frozen hgo 1
  clear h hB0
  go_enter Try.func59, Try.ntmps59
  go_upto_region 1 with (fail)
  rw [← hW1]
  clear hW1
  go_wp2_with fail
  refine bodyPost_ret (results_cell_row rfl _ _ W.heap.size 35 _ (0, 0) _ rfl hg9 hu rfl (by kernel_rfl)) rfl ?_
  exact ⟨rfl, hB9⟩
set_option maxHeartbeats 2000000 in
set_option maxRecDepth 100000 in
theorem meter_level1 (k gm : Nat) (pk sm cn r : Int) (W : World) (h : W.heap[gm]? = some (.cells #[.int .i64 pk, .int .i64 sm, .int .i64 cn] 72 (0, 0))) (hcn : 1 ≤ cn ∧ cn ≤ 1000000) (hsm : 0 ≤ sm ∧ sm ≤ 1000000000000000) (hr : root_Sqrt.f k (sm.tdiv cn) = some r) :
    Calls Try.prog 59 #[.pointer (some ⟨gm, 0, none⟩)] W fun e W' => e = .returned (.agg #[.int .i64 pk, .int .i64 r]) ∧ Below W.heap.size W W' := by
  have hu := Try.underlying35
  have hz : (cn == 0) = false := beq_eq_false_iff_ne.2 (by omega)
  have hz2 : (cn = 0) = False := eq_false (by omega)
  have hgo := blk_new W (.cells #[.int .i64 0, .int .i64 0] 35)
  have hB0 := below_alloc (Below.refl W.heap.size W) (.cells #[.int .i64 0, .int .i64 0] 35)
  have h2 := blk_alloc h (.cells #[.int .i64 0, .int .i64 0] 35)
  have hd : wrap64 (sm.tdiv cn) = sm.tdiv cn := by
    have hq : sm.tdiv cn ≤ sm := Int.tdiv_le_self cn hsm.1
    have h0 : 0 ≤ sm.tdiv cn := Int.tdiv_nonneg hsm.1 (by omega)
    unfold wrap64; omega
  have hd' : IntKind.i64.wrap (sm.tdiv cn) = sm.tdiv cn := by rw [i64_w]; exact hd
  obtain ⟨W1, hW1⟩ : ∃ W1, W1 = W.alloc (.cells #[.int .i64 0, .int .i64 0] 35) := ⟨_, rfl⟩
  rw [← hW1] at hgo h2 hB0
  have c0 := (blk_cell h2 0).trans (show _ = some (Value.int .i64 pk) from rfl)
  have c1 := (blk_cell h2 1).trans (show _ = some (Value.int .i64 sm) from rfl)
  have c2 := (blk_cell h2 2).trans (show _ = some (Value.int .i64 cn) from rfl)
  go_enter Try.func59, Try.ntmps59
  go_upto_region 1 with (fail)
  rw [← hW1]
  clear hW1
  go_upto_region 3 with (fail)
  refine start_ (n := 16) (S := fun w' => w'.cell? ⟨gm, 0, none⟩ = some (.int .i64 pk) ∧ w'.cell? ⟨gm, 1, none⟩ = some (.int .i64 sm) ∧ w'.cell? ⟨gm, 2, none⟩ = some (.int .i64 cn)) (ds := [15]) #[false, false, false, false, false, false, false, false, false, false, false, false, false, false, false, false] (by kernel_rfl) rfl rfl ⟨c0, c1, c2⟩ (fun hHeld => ?_); refine with_tabW Level3.tab3 Level3.bits3 (fun HT_ HW_ => ?_)
  refine pure_ (i := 0) (N := (some 9)) (v := ?_) (a' := ?_) #[true, false, false, false, false, false, false, false, false, false, false, false, false, false, false, false] rfl rfl (any_of HT_.out (by kernel_rfl)) (fun _ _ _ h => h) (Or.inl ⟨by rfl, ?_⟩) ?_ ?_
  rotate_left
  · intro w'
    go_simp
    with_reducible rfl
  rotate_left
  · simp only [Act.put, List.setIfInBounds_toArray, List.set_cons_zero, List.set_cons_succ, i64_w, i32_w]
    rfl
  refine pure_ (i := 1) (N := (some 10)) (v := ?_) (a' := ?_) #[true, true, false, false, false, false, false, false, false, false, false, false, false, false, false, false] rfl rfl (any_of HT_.out (by kernel_rfl)) (fun _ _ _ h => h) (Or.inl ⟨by rfl, ?_⟩) ?_ ?_
  rotate_left
  · intro w'
    go_simp
    with_reducible rfl
  rotate_left
  · simp only [Act.put, List.setIfInBounds_toArray, List.set_cons_zero, List.set_cons_succ, i64_w, i32_w]
    rfl
  refine pure_ (i := 2) (N := (some 11)) (v := ?_) (a' := ?_) #[true, true, true, false, false, false, false, false, false, false, false, false, false, false, false, false] rfl rfl (any_of HT_.out (by kernel_rfl)) (fun _ _ _ h => h) (Or.inl ⟨by rfl, ?_⟩) ?_ ?_
  rotate_left
  · intro w'
    go_simp
    with_reducible rfl
  rotate_left
  · simp only [Act.put, List.setIfInBounds_toArray, List.set_cons_zero, List.set_cons_succ, i64_w, i32_w]
    rfl
  refine pure_ (i := 4) (N := (some 13)) (v := ?_) (a' := ?_) #[true, true, true, false, true, false, false, false, false, false, false, false, false, false, false, false] rfl rfl (any_of HT_.out (by kernel_rfl)) (fun _ _ _ h => h) (Or.inl ⟨by rfl, ?_⟩) ?_ ?_
  rotate_left
  · intro w'
    go_simp
    with_reducible rfl
  rotate_left
  · simp only [Act.put, List.setIfInBounds_toArray, List.set_cons_zero, List.set_cons_succ, i64_w, i32_w]
    rfl
  refine pure_ (i := 5) (N := (some 14)) (v := ?_) (a' := ?_) #[true, true, true, false, true, true, false, false, false, false, false, false, false, false, false, false] rfl rfl (any_of HT_.out (by kernel_rfl)) (fun _ _ _ h => h) (Or.inl ⟨by rfl, ?_⟩) ?_ ?_
  rotate_left
  · intro w'
    go_simp
    with_reducible rfl
  rotate_left
  · simp only [Act.put, List.setIfInBounds_toArray, List.set_cons_zero, List.set_cons_succ, i64_w, i32_w]
    rfl
  refine pure_ (i := 6) (N := (some 15)) (v := ?_) (a' := ?_) #[true, true, true, false, true, true, true, false, false, false, false, false, false, false, false, false] rfl rfl (any_of HT_.out (by kernel_rfl)) (fun _ _ _ h => h) (Or.inl ⟨by rfl, ?_⟩) ?_ ?_
  rotate_left
  · intro w'
    go_simp
    with_reducible rfl
  rotate_left
  · simp only [Act.put, List.setIfInBounds_toArray, List.set_cons_zero, List.set_cons_succ, i64_w, i32_w]
    rfl
  refine pure_ (i := 8) (N := (some 17)) (v := ?_) (a' := ?_) #[true, true, true, false, true, true, true, false, true, false, false, false, false, false, false, false] rfl rfl (any_of HT_.out (by kernel_rfl)) (fun _ _ _ h => h) (Or.inl ⟨by rfl, ?_⟩) ?_ ?_
  rotate_left
  · intro w'
    go_simp
    with_reducible rfl
  rotate_left
  · simp only [Act.put, List.setIfInBounds_toArray, List.set_cons_zero, List.set_cons_succ, i64_w, i32_w]
    rfl
  refine pure_ (i := 9) (N := (some 18)) (v := ?_) (a' := ?_) #[true, true, true, false, true, true, true, false, true, true, false, false, false, false, false, false] rfl rfl (any_of HT_.out (by kernel_rfl)) (fun _ _ _ h => h) (Or.inl ⟨by rfl, ?_⟩) ?_ ?_
  rotate_left
  · intro w'
    go_simp
    with_reducible rfl
  rotate_left
  · simp only [Act.put, List.setIfInBounds_toArray, List.set_cons_zero, List.set_cons_succ, i64_w, i32_w]
    rfl
  refine pure_ (i := 10) (N := (some 19)) (v := ?_) (a' := ?_) #[true, true, true, false, true, true, true, false, true, true, true, false, false, false, false, false] rfl rfl (any_of HT_.out (by kernel_rfl)) (fun _ _ _ h => h) (Or.inl ⟨by rfl, ?_⟩) ?_ ?_
  rotate_left
  · intro w'
    go_simp
    with_reducible rfl
  rotate_left
  · simp only [Act.put, List.setIfInBounds_toArray, List.set_cons_zero, List.set_cons_succ, i64_w, i32_w]
    rfl
  refine take_ (i := 3) (N := (some 12)) (v := ?_) (a' := ?_) #[true, true, true, true, true, true, true, false, true, true, true, false, false, false, false, false] rfl rfl (take_ofW HT_.out HW_.out (by kernel_rfl)) (fun _ _ _ h => h) (Or.inl ⟨by rfl, ?_⟩) hHeld ?_ ?_
  rotate_left
  · intro w' hS_
    go_simp
    obtain ⟨s0_, s1_, s2_⟩ := hS_; go_simp; with_reducible rfl
  rotate_left
  · simp only [Act.put, List.setIfInBounds_toArray, List.set_cons_zero, List.set_cons_succ, i64_w, i32_w]
    rfl
  refine take_ (i := 7) (N := (some 16)) (v := ?_) (a' := ?_) #[true, true, true, true, true, true, true, true, true, true, true, false, false, false, false, false] rfl rfl (take_ofW HT_.out HW_.out (by kernel_rfl)) (fun _ _ _ h => h) (Or.inl ⟨by rfl, ?_⟩) hHeld ?_ ?_
  rotate_left
  · intro w' hS_
    go_simp
    obtain ⟨s0_, s1_, s2_⟩ := hS_; go_simp; with_reducible rfl
  rotate_left
  · simp only [Act.put, List.setIfInBounds_toArray, List.set_cons_zero, List.set_cons_succ, i64_w, i32_w]
    rfl
  refine take_ (i := 11) (N := (some 20)) (v := ?_) (a' := ?_) #[true, true, true, true, true, true, true, true, true, true, true, true, false, false, false, false] rfl rfl (take_ofW HT_.out HW_.out (by kernel_rfl)) (fun _ _ _ h => h) (Or.inl ⟨by rfl, ?_⟩) hHeld ?_ ?_
  rotate_left
  · intro w' hS_
    go_simp
    obtain ⟨s0_, s1_, s2_⟩ := hS_; go_simp; with_reducible rfl
  rotate_left
  · simp only [Act.put, List.setIfInBounds_toArray, List.set_cons_zero, List.set_cons_succ, i64_w, i32_w]
    rfl
  refine pure_ (i := 12) (N := (some 21)) (v := ?_) (a' := ?_) #[true, true, true, true, true, true, true, true, true, true, true, true, true, false, false, false] rfl rfl (any_of HT_.out (by kernel_rfl)) (fun _ _ _ h => h) (Or.inl ⟨by rfl, ?_⟩) ?_ ?_
  rotate_left
  · intro w'
    go_simp
    with_reducible rfl
  rotate_left
  · simp only [Act.put, List.setIfInBounds_toArray, List.set_cons_zero, List.set_cons_succ, i64_w, i32_w]
    rfl
  refine one_ (i := 13) (N := (some 22)) #[true, true, true, true, true, true, true, true, true, true, true, true, true, true, false, false] rfl rfl (one_of HT_.out (by kernel_rfl)) (by decide) (fun K hK => ?_)
  refine goes_ Try.func105 (by kernel_rfl) rfl #[.int .i64 (sm.tdiv cn)] (by rfl) rfl rfl (by (try simp only [List.map_toArray, List.map_cons, List.map_nil]); first | done | rfl) ?_
  refine (root_Sqrt.calls k _ _ _ hr).mono ?_
  rintro e w2 ⟨rfl, ⟨n2, rfl⟩⟩
  refine ⟨_, rfl, ?_⟩
  have z0 : (W1.drewN (1 + n2)).cell? ⟨W.heap.size, 0, none⟩ = some (.int .i64 0) := (blk_cell (blk_drewN hgo (1 + n2)) 0).trans rfl
  have z1 : (W1.drewN (1 + n2)).cell? ⟨W.heap.size, 1, none⟩ = some (.int .i64 0) := (blk_cell (blk_drewN hgo (1 + n2)) 1).trans rfl
  have fz0 := blk_frozen (blk_drewN hgo (1 + n2)) 0
  have fz1 := blk_frozen (blk_drewN hgo (1 + n2)) 1
  refine hK.out _ _ hHeld (fun hHeld => ?_)
  clear hK K
  refine norm_ (a' := ?_) ?_ ?_
  rotate_left
  · show Act.put _ (some 22) _ = _
    simp only [Act.put, List.setIfInBounds_toArray, List.set_cons_zero, List.set_cons_succ, i64_w, i32_w]
    rfl
  refine pure_ (i := 14) (N := (some 23)) (v := ?_) (a' := ?_) #[true, true, true, true, true, true, true, true, true, true, true, true, true, true, true, false] rfl rfl (any_of HT_.out (by kernel_rfl)) (fun _ _ _ h => h) (Or.inl ⟨by rfl, ?_⟩) ?_ ?_
  rotate_left
  · intro w'
    go_simp
    with_reducible rfl
  rotate_left
  · simp only [Act.put, List.setIfInBounds_toArray, List.set_cons_zero, List.set_cons_succ, i64_w, i32_w]
    rfl
  refine last_ (i := 15) (N := none) #[true, true, true, true, true, true, true, true, true, true, true, true, true, true, true, true] rfl rfl (one_of HT_.out (by kernel_rfl)) (by decide) (fun K hK => ?_)
  go_simp
  refine hK.out _ _ ?_
  clear hK K
  refine done_ (done_of HT_.out (by kernel_rfl)) ?_
  have hg9 := st2_blk (blk_drewN hgo (1 + n2)) (.int .i64 pk) (.int .i64 r)
  have hB9 := below_set (j := 1) (v := .int .i64 r) (below_set (j := 0) (v := .int .i64 pk) (pw_below_drewN hB0 (1 + n2)) (Nat.le_refl _)) (Nat.le_refl _)
  go_wp2_with fail
  refine bodyPost_ret (results_cell_row rfl _ _ W.heap.size 35 _ (0, 0) _ rfl hg9 hu rfl (by kernel_rfl)) rfl ?_
  exact ⟨rfl, hB9⟩
def GoodS (n : Nat) (s : Int × Int × Int) : Prop := s.2.2 = (n : Int) ∧ 0 ≤ s.1 ∧ s.1 ≤ 32768 ∧ 0 ≤ s.2.1 ∧ s.2.1 ≤ (n : Int) * 1073741824
theorem sq_bd (x : Int) (hx : -32768 ≤ x ∧ x ≤ 32767) : 0 ≤ x * x ∧ x * x ≤ 1073741824 := by
  constructor
  · rcases Int.le_total 0 x with h | h
    · exact Int.mul_nonneg h h
    · have := Int.mul_nonneg (Int.neg_nonneg_of_nonpos h) (Int.neg_nonneg_of_nonpos h); rwa [Int.neg_mul_neg] at this
  · rcases Int.le_total 0 x with h | h
    · exact Int.le_trans (Int.mul_le_mul (show x ≤ 32768 by omega) (show x ≤ 32768 by omega) h (by omega)) (by decide)
    · have := Int.mul_le_mul (show -x ≤ 32768 by omega) (show -x ≤ 32768 by omega) (by omega) (by omega)
      rw [Int.neg_mul_neg] at this
      exact Int.le_trans this (by decide)
theorem GoodS.step {n : Nat} {s : Int × Int × Int} (h : GoodS n s) (x : Int) (hx : -32768 ≤ x ∧ x ≤ 32767) : GoodS (n + 1) (hearS s x) := by
  obtain ⟨pk, sm, cn⟩ := s
  obtain ⟨h1, h2, h3, h4, h5⟩ := h
  have := sq_bd x hx
  unfold hearS iabs
  simp only at *
  refine ⟨by show cn + 1 = _; omega, ?_, ?_, by show 0 ≤ sm + x * x; omega, by show sm + x * x ≤ _; omega⟩ <;> (show _ ≤ _; simp only; split <;> split <;> omega)
theorem GoodS.row : ∀ (x : List Int) (n : Nat) (s : Int × Int × Int), GoodS n s → (∀ y, y ∈ x → -32768 ≤ y ∧ y ≤ 32767) → GoodS (n + x.length) (x.foldl hearS s) := by
  intro x
  induction x with
  | nil => intro n s h _; exact h
  | cons y x ih =>
    intro n s h hx
    have := ih (n + 1) _ (h.step y (hx y List.mem_cons_self)) (fun z hz => hx z (List.mem_cons_of_mem _ hz))
    rw [List.length_cons, show n + (x.length + 1) = n + 1 + x.length by omega]
    exact this
def rowsS (l : List (List Int)) : Int × Int × Int := l.foldl (fun s row => row.foldl hearS s) (0, 0, 0)
theorem GoodS.rows (m : Nat) : ∀ (l : List (List Int)), (∀ x, x ∈ l → x.length = m ∧ ∀ y, y ∈ x → -32768 ≤ y ∧ y ≤ 32767) → ∀ n s, GoodS n s → GoodS (n + l.length * m) (l.foldl (fun s row => row.foldl hearS s) s) := by
  intro l
  induction l with
  | nil => intro _ n s h; rw [List.length_nil, Nat.zero_mul]; exact h
  | cons x l ih =>
    intro hl n s h
    have hx := hl x List.mem_cons_self
    have h1 := GoodS.row x n s h hx.2
    rw [hx.1] at h1
    have := ih (fun z hz => hl z (List.mem_cons_of_mem _ hz)) _ _ h1
    rw [List.length_cons, Nat.succ_mul, show n + (l.length * m + m) = n + m + l.length * m by omega]
    exact this
structure OfSt (w : World) (go gm : Nat) (W : World) (s : Int × Int × Int) : Prop where
  h : W.heap[gm]? = some (.cells #[.int .i64 s.1, .int .i64 s.2.1, .int .i64 s.2.2] 72 (0, 0))
  o : W.heap[go]? = some (.cells #[.int .i64 0, .int .i64 0] 35 (0, 0))
  b : Below w.heap.size w W
theorem take_snoc {α : Type} (l : List α) (d : α) (i : Nat) (h : i < l.length) : l.take (i + 1) = l.take i ++ [l.getD i d] := by
  rw [List.take_succ_eq_append_getElem h, List.getD_eq_getElem?_getD, List.getElem?_eq_getElem h]; rfl
set_option maxHeartbeats 4000000 in
set_option maxRecDepth 100000 in
theorem meter_Of_run (k : Nat) (A0 : Option Addr) (c0 : Nat) (l0 : List (List Int)) (r : Int × Int) (w : World) (hs : sizeM l0 ≤ 200000) (hr0 : Kd.C (Kd.slice 3 (Kd.int .i64)) w A0 l0.length l0) (hc0 : l0.length ≤ c0) (hb : rightM l0 = true)
    (hres : ((rowsS l0).2.2 = 0 ∧ r = (0, 0)) ∨ ((rowsS l0).2.2 ≠ 0 ∧ ∃ y, root_Sqrt.f k ((rowsS l0).2.1.tdiv (rowsS l0).2.2) = some y ∧ r = ((rowsS l0).1, y))) :
    Calls Try.prog 15 #[.slice A0 l0.length c0] w fun e w' => e = .returned (.agg #[.int .i64 r.1, .int .i64 r.2]) ∧ Below w.heap.size w w' := by
  have hu := Try.underlying35
  have hgo := blk_new w (.cells #[.int .i64 0, .int .i64 0] 35)
  have hB0 := below_alloc (Below.refl w.heap.size w) (.cells #[.int .i64 0, .int .i64 0] 35)
  have HR := Aside0.mk (meter_Right.calls A0 c0 l0 true _ (Kd.C_below hr0 hB0) hc0 (by unfold meter_Right.f; rw [hb]))
  have hrows := right_rows hb
  have hn3 : l0.length ≤ 3 := by unfold rightM at hb; rw [Bool.and_eq_true, decide_eq_true_eq] at hb; exact hb.1
  obtain ⟨aa, ca, hx⟩ := rows_open hr0
  have HX := Aside0.mk hx
  have HROW := Aside0.mk hrows
  have HRES := Aside0.mk hres
  clear hx hrows hres hb hr0 hc0
  obtain ⟨n, hn⟩ : ∃ n, n = l0.length := ⟨_, rfl⟩
  rw [← hn] at HR hn3 ⊢
  have HN := Lib.hid hn
  clear hn
  go_enter Try.func15, Try.ntmps15
  go_upto_region 4 with (go_at_call 20; refine HR.out.mono ?_; rintro e w1 ⟨rfl, hb1⟩)
  have ho1 := blk_below hgo hb1
  have hB1 := below_step hB0 hb1
  have hst : OfSt w w.heap.size w1.heap.size (w1.alloc (.cells #[.int .i64 0, .int .i64 0, .int .i64 0] 72)) (0, 0, 0) := ⟨blk_new w1 _, blk_alloc ho1 _, below_alloc hB1 _⟩
  have hne : w.heap.size ≠ w1.heap.size := by have := blk_lt ho1; omega
  have hgm : w.heap.size ≤ w1.heap.size := hB1.size
  generalize w1.alloc (.cells #[.int .i64 0, .int .i64 0, .int .i64 0] 72) = w2 at *
  generalize w1.heap.size = gm at *
  obtain ⟨go, hgoe⟩ : ∃ go, go = w.heap.size := ⟨_, rfl⟩
  rw [← hgoe] at hst hne ⊢
  have hgob : w.heap.size ≤ go := by omega
  clear hgo ho1 hB0 hB1 hb1 hgoe
  go_wp2_with fail
  go_loopw [14] (fun v wr => ∃ i : Nat, i ≤ n ∧ v = .int .i64 i ∧ Aside0 (OfSt w go gm wr (rowsS (l0.take i)))) (fun v _ => n - (intOf v).toNat)
  case atStart => exact ⟨0, Nat.zero_le _, rfl, ⟨hst⟩⟩
  case round =>
    clear hst
    obtain ⟨i, hi, rfl, HS⟩ := hrel
    by_cases hlt : i < n
    · have hlt' : i < l0.length := by rw [← HN.out]; exact hlt
      obtain ⟨ad, rfl, hl1, hC1, hc1⟩ := HX.out i hlt'
      have hc := decide_eq_true (show (i : Int) < (n : Int) by omega)
      have p1 : (0 ≤ (i : Int)) = True := eq_true (by omega)
      have p2 : ((i : Int) < (n : Int)) = True := eq_true (by omega)
      have k1 := (HS.out.b.cell (p := ad.add i) (World.block_lt_of_cell? _ _ hc1)).trans hc1
      have hmem : l0.getD i [] ∈ l0 := by
        rw [List.getD_eq_getElem?_getD, List.getElem?_eq_getElem hlt']
        exact List.getElem_mem hlt'
      have hrow := HROW.out _ hmem
      have hgood : GoodS (i * sizeM l0) (rowsS (l0.take i)) := by
        have := GoodS.rows (sizeM l0) (l0.take i) (fun x hx => HROW.out x (List.mem_of_mem_take hx)) 0 (0, 0, 0) ⟨rfl, by decide, by decide, by decide, by decide⟩
        rw [List.length_take, Nat.min_eq_left (by omega), Nat.zero_add] at this
        exact this
      have hsn : rowsS (l0.take (i + 1)) = (l0.getD i []).foldl hearS (rowsS (l0.take i)) := by
        unfold rowsS
        rw [take_snoc l0 [] i hlt', List.foldl_append]; rfl
      have HSN := Lib.hid hsn
      have HGOOD := Aside0.mk hgood
      have HROWI := Aside0.mk hrow
      have HC1 := Aside0.mk hC1
      clear hsn hgood hrow hC1 hc1 hmem
      generalize rowsS (l0.take i) = s0 at *
      generalize l0.getD i [] = x at *
      go_wp2_with fail
      go_loopw [20] (fun v wr => ∃ j : Nat, j ≤ x.length ∧ v = .int .i64 j ∧ Aside0 (OfSt w go gm wr ((x.take j).foldl hearS s0))) (fun v _ => x.length - (intOf v).toNat)
      case atStart => exact ⟨0, Nat.zero_le _, rfl, HS⟩
      case round =>
        clear HS
        obtain ⟨j, hj, rfl, HS⟩ := hrel
        by_cases hlj : j < x.length
        · obtain ⟨ad2, hae, hcj⟩ := getD_cell (Kd.C_below HC1.out HS.out.b) j hlj
          have hcd := decide_eq_true (show (j : Int) < (x.length : Int) by omega)
          have p3 : (0 ≤ (j : Int)) = True := eq_true (by omega)
          have p4 : ((j : Int) < (x.length : Int)) = True := eq_true (by omega)
          have hxm : x.getD j 0 ∈ x := by
            rw [List.getD_eq_getElem?_getD, List.getElem?_eq_getElem hlj]
            exact List.getElem_mem hlj
          have hxb := HROWI.out.2 _ hxm
          have hgj := GoodS.row (x.take j) _ s0 HGOOD.out (fun y hy => HROWI.out.2 y (List.mem_of_mem_take hy))
          rw [List.length_take, Nat.min_eq_left (by omega)] at hgj
          have hlen := HROWI.out.1
          have hxl : x.length ≤ 200000 := by rw [hlen]; exact hs
          have hbnd : i * sizeM l0 + j ≤ 800000 := by
            have : i * sizeM l0 ≤ 3 * 200000 := Nat.mul_le_mul (by omega) hs
            omega
          have hsj := take_snoc x 0 j hlj
          have HSJ := Lib.hid (show (x.take (j + 1)).foldl hearS s0 = hearS ((x.take j).foldl hearS s0) (x.getD j 0) by rw [hsj, List.foldl_append]; rfl)
          have hst := HS.out
          clear hsj hxm HS
          generalize (x.take j).foldl hearS s0 = sj at *
          generalize x.getD j 0 = y at *
          obtain ⟨g1, g2, g3, g4, g5⟩ := hgj
          have hh := meter_hears gm sj y w wr hst.h hst.b hgm hxb ⟨g2, g3⟩ ⟨g4, by omega⟩ ⟨by omega, by omega⟩
          have HH := Aside0.mk hh
          have HST := Aside0.mk hst
          clear hh hst g1 g2 g3 g4 g5 hbnd hlen hxb
          generalize aa i = ai at *
          subst hae
          go_wp2_with (go_at_call 58; refine HH.out.mono ?_; rintro e w5 ⟨rfl, hm5, hb5, hk5⟩)
          go_roundw
          case rel => exact ⟨j + 1, by omega, by go_num, ⟨by rw [HSJ.out]; exact hm5, hk5 _ _ hne HST.out.o, hb5⟩⟩
          case measure => simp [intOf]; omega
        · obtain rfl : j = x.length := by omega
          have hcd := decide_eq_false (show ¬ ((x.length : Nat) : Int) < (x.length : Int) by omega)
          rw [List.take_length, ← HSN.out] at HS
          go_wp2_with fail
          go_roundw
          case rel => exact ⟨i + 1, by omega, by go_num, HS⟩
          case measure => simp [intOf]; omega
    · obtain rfl : i = n := by omega
      have hc := decide_eq_false (show ¬ (i : Int) < (i : Int) by omega)
      have hst := HS.out
      rw [show l0.take i = l0 from List.take_of_length_le (by rw [← HN.out]; exact Nat.le_refl _)] at hst
      have hgood : GoodS (l0.length * sizeM l0) (rowsS l0) := by
        have := GoodS.rows (sizeM l0) l0 (fun x hx => HROW.out x hx) 0 (0, 0, 0) ⟨rfl, by decide, by decide, by decide, by decide⟩
        rwa [Nat.zero_add] at this
      have hbnd : l0.length * sizeM l0 ≤ 600000 := by
        have : l0.length * sizeM l0 ≤ 3 * 200000 := Nat.mul_le_mul (by rw [← HN.out]; exact hn3) hs
        omega
      have hR := HRES.out
      clear HS HRES HX HROW hs
      generalize l0.length * sizeM l0 = cnt at *
      generalize rowsS l0 = s at *
      obtain ⟨g1, g2, g3, g4, g5⟩ := hgood
      have hlev : Calls Try.prog 59 #[.pointer (some ⟨gm, 0, none⟩)] wr fun e W' => e = .returned (.agg #[.int .i64 r.1, .int .i64 r.2]) ∧ Below wr.heap.size wr W' := by
        rcases hR with ⟨h0, rfl⟩ | ⟨h0, y, hy, rfl⟩
        · have hh := hst.h
          rw [h0] at hh
          exact meter_level0 gm s.1 s.2.1 wr hh
        · exact meter_level1 k gm s.1 s.2.1 s.2.2 y wr hst.h (by omega) (by omega) hy
      have HLEV := Aside0.mk hlev
      have ho := hst.o
      have hb := hst.b
      clear hlev hst hR g1 g2 g3 g4 g5 hbnd hn3
      go_wp2_with (go_at_call 59; refine HLEV.out.mono ?_; rintro e w5 ⟨rfl, hb5⟩; have ho5 := blk_below ho hb5; have z0 := (blk_cell ho5 0).trans (show _ = some (Value.int .i64 0) from rfl); have z1 := (blk_cell ho5 1).trans (show _ = some (Value.int .i64 0) from rfl); have fz0 := blk_frozen ho5 0; have fz1 := blk_frozen ho5 1)
      have hg9 := st2_blk ho5 (.int .i64 r.1) (.int .i64 r.2)
      have hB9 := below_set (j := 1) (v := .int .i64 r.2) (below_set (j := 0) (v := .int .i64 r.1) (below_step hb hb5) hgob) hgob
      refine bodyPost_ret (results_cell_row rfl _ _ go 35 _ (0, 0) _ rfl hg9 hu rfl (by kernel_rfl)) rfl ?_
      exact ⟨rfl, hB9⟩
def meter_Of.f (k : Nat) (l0 : List (List Int)) : Option (Int × Int) := if sizeM l0 ≤ 200000 then (if rightM l0 = true then (if (rowsS l0).2.2 = 0 then some (0, 0) else (root_Sqrt.f k ((rowsS l0).2.1.tdiv (rowsS l0).2.2)).bind fun y => some ((rowsS l0).1, y)) else some (0, 0)) else none
theorem meter_Of.mono : ∀ a0 k, LeO (meter_Of.f k a0) (meter_Of.f (k + 1) a0) := by
  intro a0 k r h
  unfold meter_Of.f at h ⊢
  by_cases c0 : sizeM a0 ≤ 200000
  · rw [if_pos c0] at h ⊢
    by_cases c1 : rightM a0 = true
    · rw [if_pos c1] at h ⊢
      by_cases c2 : (rowsS a0).2.2 = 0
      · rw [if_pos c2] at h ⊢; exact h
      · rw [if_neg c2] at h ⊢
        obtain ⟨y, h1, h2⟩ := Option.bind_eq_some_iff.1 h
        rw [root_Sqrt.mono _ _ _ h1]
        exact h2
    · rw [if_neg c1] at h ⊢; exact h
  · rw [if_neg c0] at h; cases h
set_option maxHeartbeats 2000000 in
set_option maxRecDepth 100000 in
theorem meter_Of_no (A0 : Option Addr) (c0 : Nat) (l0 : List (List Int)) (w : World) (hr0 : Kd.C (Kd.slice 3 (Kd.int .i64)) w A0 l0.length l0) (hc0 : l0.length ≤ c0) (hb : rightM l0 = false) :
    Calls Try.prog 15 #[.slice A0 l0.length c0] w fun e w' => e = .returned (.agg #[.int .i64 0, .int .i64 0]) ∧ Below w.heap.size w w' := by
  have hu := Try.underlying35
  have hgo := blk_new w (.cells #[.int .i64 0, .int .i64 0] 35)
  have hB0 := below_alloc (Below.refl w.heap.size w) (.cells #[.int .i64 0, .int .i64 0] 35)
  have HR := Aside0.mk (meter_Right.calls A0 c0 l0 false _ (Kd.C_below hr0 hB0) hc0 (by unfold meter_Right.f; rw [hb]))
  clear hb hr0 hc0
  generalize l0.length = n at *
  go_enter Try.func15, Try.ntmps15
  go_wp2_with (go_at_call 20; refine HR.out.mono ?_; rintro e w1 ⟨rfl, hb1⟩; have ho1 := blk_below hgo hb1; have z0 := (blk_cell ho1 0).trans (show _ = some (Value.int .i64 0) from rfl); have z1 := (blk_cell ho1 1).trans (show _ = some (Value.int .i64 0) from rfl); have fz0 := blk_frozen ho1 0; have fz1 := blk_frozen ho1 1)
  have hg9 := st2_blk ho1 (.int .i64 0) (.int .i64 0)
  have hB9 := below_set (j := 1) (v := .int .i64 0) (below_set (j := 0) (v := .int .i64 0) (below_step hB0 hb1) (Nat.le_refl _)) (Nat.le_refl _)
  refine bodyPost_ret (results_cell_row rfl _ _ w.heap.size 35 _ (0, 0) _ rfl hg9 hu rfl (by kernel_rfl)) rfl ?_
  exact ⟨rfl, hB9⟩
theorem meter_Of.calls (k : Nat) (A0 : Option Addr) (c0 : Nat) (l0 : List (List Int)) (r1 r2 : Int) (w : World) (hr0 : Kd.C (Kd.slice 3 (Kd.int .i64)) w A0 l0.length l0) (hc0 : l0.length ≤ c0) (h : meter_Of.f k l0 = some (r1, r2)) :
    Calls Try.prog 15 #[.slice A0 l0.length c0] w fun e w' => e = .returned (.agg #[.int .i64 r1, .int .i64 r2]) ∧ Below w.heap.size w w' := by
  unfold meter_Of.f at h
  by_cases hs : sizeM l0 ≤ 200000
  · rw [if_pos hs] at h
    by_cases hb : rightM l0 = true
    · rw [if_pos hb] at h
      refine meter_Of_run k A0 c0 l0 (r1, r2) w hs hr0 hc0 hb ?_
      by_cases c2 : (rowsS l0).2.2 = 0
      · rw [if_pos c2] at h; exact .inl ⟨c2, (Option.some.inj h).symm⟩
      · rw [if_neg c2] at h
        obtain ⟨y, h1, h2⟩ := Option.bind_eq_some_iff.1 h
        exact .inr ⟨c2, y, h1, (Option.some.inj h2).symm⟩
    · rw [if_neg hb] at h
      simp only [Option.some.injEq, Prod.mk.injEq] at h
      obtain ⟨rfl, rfl⟩ := h
      exact meter_Of_no A0 c0 l0 w hr0 hc0 (by simpa using hb)
  · rw [if_neg hs] at h; cases h
end

/-! ### splicerref47_Same: function 21 -/
def splicerref47_Same.l0 : Nat → List (S44) → List (S44) → Int → Option (Bool)
  | 0, _, _, _ => none
  | k + 1, x0, x1, x5 => if x5 < (x0.length : Int) then (if 0 ≤ x5 then (if x5 < (x1.length : Int) then (if (!(((rd_T44 x0 x5).f0) == ((rd_T44 x1 x5).f0)) || (!(((rd_T44 x0 x5).f1) == ((rd_T44 x1 x5).f1)))) = true then (some false) else (splicerref47_Same.l0 k x0 x1 (wrap64 (x5 + 1)))) else (none)) else (none)) else (some true)
def splicerref47_Same.f (k : Nat) (l0 : List (S44)) (l1 : List (S44)) : Option (Bool) := if (l0.length : Int) = (l1.length : Int) then (splicerref47_Same.l0 k l0 l1 0) else (some false)
theorem splicerref47_Same.mono_l : ∀ k, (∀ y0 y1 y2, LeO (splicerref47_Same.l0 k y0 y1 y2) (splicerref47_Same.l0 (k + 1) y0 y1 y2))
  | 0 => fun _ _ _ r h => by simp [splicerref47_Same.l0] at h
  | k + 1 => by
    have ih0 := splicerref47_Same.mono_l k
    · intro y0 y1 y2
      unfold splicerref47_Same.l0
      repeat' first
      | (with_reducible exact ih0 _ _ _)
      | (with_reducible exact LeO.refl _)
      | (with_reducible exact LeO.none _)
      | (with_reducible refine LeO.ite ?_ ?_)
      | (with_reducible refine LeO.bind ?_ (fun _ => ?_))
      | exact ih0 _ _ _
      | exact LeO.none _
      | refine LeO.ite ?_ ?_
      | refine LeO.bind ?_ (fun _ => ?_)
theorem splicerref47_Same.mono : ∀ a0 a1 k, LeO (splicerref47_Same.f k a0 a1) (splicerref47_Same.f (k + 1) a0 a1) := by
  intro a0 a1 k
  have ih0 := splicerref47_Same.mono_l k
  unfold splicerref47_Same.f
  repeat' first
      | (with_reducible exact ih0 _ _ _)
      | (with_reducible exact LeO.refl _)
      | (with_reducible exact LeO.none _)
      | (with_reducible refine LeO.ite ?_ ?_)
      | (with_reducible refine LeO.bind ?_ (fun _ => ?_))
      | exact ih0 _ _ _
      | exact LeO.none _
      | refine LeO.ite ?_ ?_
      | refine LeO.bind ?_ (fun _ => ?_)
set_option maxHeartbeats 8000000 in
set_option maxRecDepth 100000 in
theorem splicerref47_Same.calls (k : Nat) (A0 : Option Addr) (c0 : Nat) (l0 : List (S44)) (A1 : Option Addr) (c1 : Nat) (l1 : List (S44)) (r : Bool) (w : World) (hr0 : Kd.C k44 w A0 l0.length l0) (hc0 : l0.length ≤ c0) (hr1 : Kd.C k44 w A1 l1.length l1) (hc1 : l1.length ≤ c1) (h : splicerref47_Same.f k l0 l1 = some r) :
    Calls Try.prog 21 #[.slice A0 l0.length c0, .slice A1 l1.length c1] w fun e w' => e = .returned (.bool r) ∧ Drawn0 w w' := by
  have hu44 := Try.underlying44
  have HR0 := Aside0.mk hr0
  have HC0 := Aside0.mk hc0
  clear hr0 hc0
  have HR1 := Aside0.mk hr1
  have HC1 := Aside0.mk hc1
  clear hr1 hc1
  have H : (if (l0.length : Int) = (l1.length : Int) then (splicerref47_Same.l0 k l0 l1 0) else (some false)) = some r := h
  clear h
  by_cases c3 : (l0.length : Int) = (l1.length : Int)
  · rw [if_pos c3] at H
    have c3b0 : ((l0.length : Int) == (l1.length : Int)) = true := beq_iff_eq.mpr c3
    have c3b1 : ((l0.length : Int) != (l1.length : Int)) = false := bne_eq_false_iff_eq.mpr c3
    have c3b2 : (l0.length == l1.length) = true := by first | simpa using c3 | (simp at c3 ⊢; omega)
    clear c3
    have H' := Aside0.mk H
    clear H
    go_enter Try.func21, Try.ntmps21
    go_wp2
    repeat (go_quiet (fail); try go_wp2)
    go_loopg [5] k (fun kq v5 w' => ∃ (x5_1 : Int), v5 = .int .i64 x5_1 ∧ Aside0 (splicerref47_Same.l0 kq l0 l1 x5_1 = some r) ∧ Aside0 (kq ≤ k) ∧ Drawn0 w w')
    case atStart => exact ⟨(0), (by first | rfl | (simp; done) | (simp [*]; done)), H', ⟨Nat.le_refl _⟩, by repeat (first | exact Drawn0.refl _ | apply Drawn0.step)⟩
    case round =>
      clear H'
      try clear c1
      try clear c2
      try clear p2
      try clear c3
      try clear c3b0
      try clear c3b1
      try clear c3b2
      obtain ⟨x5_1, rfl, HA, HK1, ⟨m1, rfl⟩⟩ := hrel
      cases gk with
      | zero => exact absurd HA.out (by simp [splicerref47_Same.l0])
      | succ k1 =>
        have H := HA.out
        clear HA
        simp only [splicerref47_Same.l0] at H
        by_cases c4 : x5_1 < (l0.length : Int)
        · rw [if_pos c4] at H
          have c4b0 : decide (x5_1 < (l0.length : Int)) = true := decide_eq_true c4
          clear c4
          by_cases c5 : 0 ≤ x5_1
          · rw [if_pos c5] at H
            have c5b0 : decide (0 ≤ x5_1) = true := decide_eq_true c5
            clear c5
            by_cases c6 : x5_1 < (l1.length : Int)
            · rw [if_pos c6] at H
              have c6b0 : decide (x5_1 < (l1.length : Int)) = true := decide_eq_true c6
              clear c6
              by_cases c7 : (!(((rd_T44 l0 x5_1).f0) == ((rd_T44 l1 x5_1).f0)) || (!(((rd_T44 l0 x5_1).f1) == ((rd_T44 l1 x5_1).f1)))) = true
              · rw [if_pos c7] at H
                have c7b0 : (!(((rd_T44 l0 x5_1).f0) == ((rd_T44 l1 x5_1).f0)) || (!(((rd_T44 l0 x5_1).f1) == ((rd_T44 l1 x5_1).f1)))) = true := c7
                clear c7
                obtain rfl := Option.some.inj H
                have p117 : 0 ≤ (x5_1 : Int) := of_decide_eq_true (by first | (with_reducible assumption) | assumption)
                have q117 : x5_1 < (l0.length : Int) := of_decide_eq_true (by first | (with_reducible assumption) | assumption)
                obtain ⟨ad117, e117, hx117_0, hx117_1⟩ := at_T44 HR0.out x5_1 p117 q117
                cases e117
                replace p117 := eq_true p117
                replace q117 := eq_true q117
                have p118 : 0 ≤ (x5_1 : Int) := of_decide_eq_true (by first | (with_reducible assumption) | assumption)
                have q118 : x5_1 < (l1.length : Int) := of_decide_eq_true (by first | (with_reducible assumption) | assumption)
                obtain ⟨ad118, e118, hx118_0, hx118_1⟩ := at_T44 HR1.out x5_1 p118 q118
                cases e118
                replace p118 := eq_true p118
                replace q118 := eq_true q118
                go_wp2
                repeat (go_quiet (fail); try go_wp2)
                go_ret
                exact ⟨by first | rfl | (simp; done) | (simp [*]; done), by repeat (first | exact Drawn0.refl _ | apply Drawn0.step)⟩
              · rw [if_neg c7] at H
                have c7b0 : (!(((rd_T44 l0 x5_1).f0) == ((rd_T44 l1 x5_1).f0)) || (!(((rd_T44 l0 x5_1).f1) == ((rd_T44 l1 x5_1).f1)))) = false := by simpa using c7
                clear c7
                have H' := Aside0.mk H
                clear H
                have p117 : 0 ≤ (x5_1 : Int) := of_decide_eq_true (by first | (with_reducible assumption) | assumption)
                have q117 : x5_1 < (l0.length : Int) := of_decide_eq_true (by first | (with_reducible assumption) | assumption)
                obtain ⟨ad117, e117, hx117_0, hx117_1⟩ := at_T44 HR0.out x5_1 p117 q117
                cases e117
                replace p117 := eq_true p117
                replace q117 := eq_true q117
                have p118 : 0 ≤ (x5_1 : Int) := of_decide_eq_true (by first | (with_reducible assumption) | assumption)
                have q118 : x5_1 < (l1.length : Int) := of_decide_eq_true (by first | (with_reducible assumption) | assumption)
                obtain ⟨ad118, e118, hx118_0, hx118_1⟩ := at_T44 HR1.out x5_1 p118 q118
                cases e118
                replace p118 := eq_true p118
                replace q118 := eq_true q118
                go_wp2
                repeat (go_quiet (fail); try go_wp2)
                go_roundg k1
                case measure => have := HK1.out; omega
                case rel => exact ⟨(wrap64 (x5_1 + 1)), (by first | rfl | (simp; done) | (simp [*]; done)), H', ⟨by have := HK1.out; omega⟩, by repeat (first | exact Drawn0.refl _ | apply Drawn0.step)⟩
            · rw [if_neg c6] at H
              exact absurd H (by simp)
          · rw [if_neg c5] at H
            exact absurd H (by simp)
        · rw [if_neg c4] at H
          have c4b0 : decide (x5_1 < (l0.length : Int)) = false := decide_eq_false c4
          clear c4
          obtain rfl := Option.some.inj H
          go_wp2
          repeat (go_quiet (fail); try go_wp2)
          go_ret
          exact ⟨by first | rfl | (simp; done) | (simp [*]; done), by repeat (first | exact Drawn0.refl _ | apply Drawn0.step)⟩
  · rw [if_neg c3] at H
    have c3b0 : ((l0.length : Int) == (l1.length : Int)) = false := beq_eq_false_iff_ne.mpr c3
    have c3b1 : ((l0.length : Int) != (l1.length : Int)) = true := bne_iff_ne.mpr c3
    have c3b2 : (l0.length == l1.length) = false := by first | simpa using c3 | (simp at c3 ⊢; omega)
    obtain rfl := Option.some.inj H
    go_enter Try.func21, Try.ntmps21
    go_wp2
    repeat (go_quiet (fail); try go_wp2)
    go_ret
    exact ⟨by first | rfl | (simp; done) | (simp [*]; done), by repeat (first | exact Drawn0.refl _ | apply Drawn0.step)⟩

end Go.Proofs.Ytagffnckmlfcnaa.S
