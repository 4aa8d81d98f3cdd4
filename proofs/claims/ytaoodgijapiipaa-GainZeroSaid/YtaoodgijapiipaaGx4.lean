-- Written for this claim by a program of the session (myprint.py), out of the translation's own print; Lean checks it.
import Derived.Test.YtaoodgijapiipaaGx0
import Derived.Test.YtaoodgijapiipaaGx1
import Derived.Test.YtaoodgijapiipaaGx3
namespace Go.Proofs.Ytaoodgijapiipaa.S
open Go.RowKit Go.Proofs.YtaoodgijapiipaaW.PrintWords Go.Proofs.YtaoodgijapiipaaW.PrintLast Go.Proofs.YtaoodgijapiipaaW.PrintMore
attribute [local go_sem] max2_int min2_int max_two min_two max_three min_three max_four min_four   -- for this text's walks alone
set_option linter.unusedVariables false
set_option linter.unusedSimpArgs false

/-! ### gain_Worst: function 36 -/
section
open RoundW ZipW
attribute [local go_sem] Oper.semAt_some wide_fn wide_depth
def nearB (l : List Int) : Bool := !(l.any fun x => decide (x < -1048576) || decide (1048576 < x))
set_option maxHeartbeats 1000000 in
set_option maxRecDepth 100000 in
theorem gain_near1 (x : Int) (w : World) : Calls Try.prog 74 #[.int .i64 x] w fun e w' => e = .returned (.bool (decide (x < -1048576) || decide (1048576 < x))) ∧ Below w.heap.size w w' := by
  by_cases h1 : x < -1048576
  · have d : (decide (x < -1048576) || decide (1048576 < x)) = true := by simp [h1]
    rw [d]
    go_enter Try.func74, Try.ntmps74
    go_wp2
    go_ret
    exact ⟨rfl, Below.refl _ _⟩
  · have d : (decide (x < -1048576) || decide (1048576 < x)) = decide (1048576 < x) := by simp [h1]
    rw [d]
    generalize hb : decide (1048576 < x) = b at *
    have d1 : decide (x < -1048576) = false := by simp [h1]
    go_enter Try.func74, Try.ntmps74
    go_wp2
    go_ret
    exact ⟨rfl, Below.refl _ _⟩
set_option maxHeartbeats 1000000 in
set_option maxRecDepth 100000 in
theorem gain_near_run (a : Option Addr) (c : Nat) (l : List Int) (w : World) (hr : Kd.C (Kd.int .i64) w a l.length l) :
    Calls Try.prog 58 #[.slice a l.length c] w fun e w' => e = .returned (.bool (nearB l)) ∧ Below w.heap.size w w' := by
  have hc := IdxX.contains_ints 74 #[] (enters_of Try.func74 (by kernel_rfl) rfl) a c l (fun x => decide (x < -1048576) || decide (1048576 < x)) w hr (fun x _ W _ => gain_near1 x W)
  unfold nearB
  generalize (l.any fun x => decide (x < -1048576) || decide (1048576 < x)) = b at *
  generalize l.length = n at *
  go_enter Try.func58, Try.ntmps58
  go_wp2_with (go_at_call 50; refine hc.mono ?_; rintro e w1 ⟨rfl, hd⟩)
  go_ret
  exact ⟨rfl, hd⟩
def iabs (x : Int) : Int := if x < 0 then -x else x
def rowGood (x y : List Int) : Bool := (decide (x.length = y.length) && nearB x) && nearB y
def stepV (x y : Nat → Int) (n : Int) (j : Nat) : Int := if n < iabs (x j - y j) then iabs (x j - y j) else n
def rowV (x y : List Int) (n : Int) (m : Nat) : Int := (List.finRange m).foldl (fun n (j : Fin m) => stepV (fun j => x.getD j 0) (fun j => y.getD j 0) n j) n
def worstAns (m : Nat) (xs ys : Nat → List Int) : Int := if (List.finRange m).all (fun i : Fin m => rowGood (xs i) (ys i)) = true then (List.finRange m).foldl (fun n (i : Fin m) => rowV (xs i) (ys i) n (xs i).length) 0 else -1
theorem near_bd {l : List Int} (h : nearB l = true) (i : Nat) : -1048576 ≤ l.getD i 0 ∧ l.getD i 0 ≤ 1048576 := by
  unfold nearB at h
  by_cases hi : i < l.length
  · have hm : l.getD i 0 ∈ l := by
      rw [List.getD_eq_getElem?_getD, List.getElem?_eq_getElem hi]
      exact List.getElem_mem hi
    simp only [Bool.not_eq_true', List.any_eq_false, Bool.or_eq_true, decide_eq_true_eq] at h
    have := h _ hm
    omega
  · rw [List.getD_eq_getElem?_getD, List.getElem?_eq_none (by omega)]
    simp
theorem abs_f (x : Int) (h0 : -2097152 ≤ x) (h1 : x ≤ 2097152) : num_Abs.f 3 x = some (iabs x) := by
  have hw : num_within.f 3 4611686018427387904 [x] = some true := by
    unfold num_within.f
    simp only [num_within.l0, List.length_singleton]
    have e : rd [x] 0 = x := rfl
    have e1 : wrap64 (-4611686018427387904) = -4611686018427387904 := by unfold wrap64; omega
    have e2 : wrap64 (0 + 1) = 1 := by unfold wrap64; omega
    rw [if_pos (by decide), if_pos (by decide), if_pos (by decide), e, e1, if_neg (by omega), if_neg (by omega), e2, if_neg (by decide)]
  unfold num_Abs.f iabs
  rw [hw, Option.bind_some, if_pos rfl]
  by_cases hx : x < 0
  · rw [if_pos hx, if_pos hx]; congr 1; unfold wrap64; omega
  · rw [if_neg hx, if_neg hx]
def WorstIn.T12 : Bool × List (List Nat × List Nat) := (true, [([], []), ([], []), ([], []), ([1, 2], [1, 2]), ([3], [3]), ([0, 4], [0, 4]), ([5, 4, 0, 1, 2, 3, 4, 5], [5])])
def WorstIn.B12 : List Nat := [0, 0, 0, 6, 14, 31, 63]
theorem WorstIn.tab12 : rtab .any (opsOf Try.f36 12) = WorstIn.T12 := by kernel_rfl
theorem WorstIn.bits12 : waitsOk WorstIn.T12.2 WorstIn.B12 = true := by kernel_rfl
/- 0:load>40; 1:move>41; 2:move>42; 3:binOp>43; 4:call>44; 5:call>45; 6:store>None -/
set_option maxHeartbeats 2000000 in
set_option maxRecDepth 100000 in
theorem gain_Worst_eq (A0 A1 : Option Addr) (c0 c1 m : Nat) (xs ys : Nat → List Int) (aa bb : Nat → Option Addr) (ca cb : Nat → Nat) (w : World) (hm : m ≤ 9223372036854775807)
    (hx : ∀ i, i < m → ∃ ad, A0 = some ad ∧ (xs i).length ≤ ca i ∧ Kd.C (Kd.int .i64) w (aa i) (xs i).length (xs i) ∧ w.cell? (ad.add i) = some (.slice (aa i) (xs i).length (ca i)))
    (hy : ∀ i, i < m → ∃ ad, A1 = some ad ∧ (ys i).length ≤ cb i ∧ Kd.C (Kd.int .i64) w (bb i) (ys i).length (ys i) ∧ w.cell? (ad.add i) = some (.slice (bb i) (ys i).length (cb i))) :
    Calls Try.prog 36 #[.slice A0 m c0, .slice A1 m c1] w fun e w' => e = .returned (.int .i64 (worstAns m xs ys)) ∧ Below w.heap.size w w' := by
  have HX := Aside0.mk hx
  have HY := Aside0.mk hy
  clear hx hy
  obtain ⟨V, hV⟩ : ∃ V, V = worstAns m xs ys := ⟨_, rfl⟩
  rw [← hV]
  have HV := Lib.hid hV
  clear hV
  refine calls_marks Try.func36 rfl ?_
  simp only [Try.ntmps36, List.size_toArray, List.length_cons, List.length_nil, Nat.reduceAdd, Nat.reduceSub, Array.replicate_succ, Array.replicate_zero, List.push_toArray, List.append_toArray, List.nil_append, List.cons_append]
  go_wp2_with (go_at_call 57; refine (zip_ll _ _ _ _ _ _ _).mono ?_; rintro e w1 ⟨rfl, rfl⟩)
  obtain ⟨W0, hW0⟩ : ∃ W0, W0 = ((((w.alloc (.cells #[.int .i64 0] 3)).alloc (.cells #[.int .i64 0] 3)).alloc (.cells #[.slice A0 m c0] 58)).alloc (.cells #[.slice A1 m c1] 58)) := ⟨_, rfl⟩
  rw [← hW0]
  have hB0 : Below w.heap.size w W0 := by rw [hW0]; exact below_alloc (below_alloc (below_alloc (below_alloc (Below.refl _ _) _) _) _) _
  have hsz : W0.heap.size = w.heap.size + 4 := by rw [hW0]; simp
  have hbR0 : Boxed W0 w.heap.size 3 (.int .i64 0) := by rw [hW0]; exact (((Boxed.new w 3 (.int .i64 0)).alloc _).alloc _).alloc _
  have hbw0 : Boxed W0 (w.heap.size + 1) 3 (.int .i64 0) := by
    have := Boxed.new (w.alloc (.cells #[.int .i64 0] 3)) 3 (.int .i64 0)
    rw [World.size_alloc] at this
    rw [hW0]; exact (this.alloc _).alloc _
  have hb1 : Boxed W0 (w.heap.size + 1 + 1) 58 (.slice A0 m c0) := by
    have := Boxed.new ((w.alloc (.cells #[.int .i64 0] 3)).alloc (.cells #[.int .i64 0] 3)) 58 (.slice A0 m c0)
    rw [World.size_alloc, World.size_alloc] at this
    rw [hW0]; exact this.alloc _
  have hb2 : Boxed W0 (w.heap.size + 1 + 1 + 1) 58 (.slice A1 m c1) := by
    have := Boxed.new (((w.alloc (.cells #[.int .i64 0] 3)).alloc (.cells #[.int .i64 0] 3)).alloc (.cells #[.slice A0 m c0] 58)) 58 (.slice A1 m c1)
    rw [World.size_alloc, World.size_alloc, World.size_alloc] at this
    rw [hW0]; exact this
  clear hW0
  refine (wpIn_wide (n := 9)).1 ?_
  refine wpIn_rangeFunc_ownH (F := Fence.wide) (n := 9) rfl (by decide) (gf := 73) (lb := #[.pointer (some ⟨w.heap.size + 1 + 1, 0, none⟩), .pointer (some ⟨w.heap.size + 1 + 1 + 1, 0, none⟩)]) rfl trivial (enters_of Try.func73 (by kernel_rfl) rfl)
    (zip_ll_stops (n := 8) (by decide) (w.heap.size + 1 + 1) A0 A1 c0 c1 m (fun i => .slice (aa i) (xs i).length (ca i)) (fun i => .slice (bb i) (ys i).length (cb i)) (fun k => (k = w.heap.size ∨ k = w.heap.size + 1) ∨ W0.heap.size ≤ k) W0 hb1.cell hb2.cell (by rw [hsz]; omega) (by rw [hsz]; omega) ?hc1 ?hc2 hm)
    (fun h k => kept_t h k) (fun W l o o' hl ho _ _ => kept_put (.inr hl)) (Below.refl _ _) (fun _ => rfl)
    (fun pre W => (pre.all (fun i : Fin m => rowGood (xs i) (ys i)) = true ∧ Boxed W w.heap.size 3 (.int .i64 0)) ∧ Boxed W (w.heap.size + 1) 3 (.int .i64 (pre.foldl (fun n (i : Fin m) => rowV (xs i) (ys i) n (xs i).length) 0)) ∧ Below w.heap.size w W)
    (fun c pre W => (c = .ret ∧ ∃ i, rowGood (xs i.val) (ys (i : Fin m).val) = false) ∧ Boxed W w.heap.size 3 (.int .i64 (-1)) ∧ Below w.heap.size w W)
    (OwnFrom.and (OwnFrom.and (ownFrom_pure _ _) (Own.from (boxed_own _ _ (fun _ => .int .i64 0)) _)) (OwnFrom.and (Own.from (boxed_own _ _ (fun pre : List (Fin m) => .int .i64 (pre.foldl (fun n (i : Fin m) => rowV (xs i) (ys i) n (xs i).length) 0))) _) (ownFrom_below (Nat.le_refl _) (by omega))))
    (fun c => OwnFrom.and (ownFrom_pure _ _) (OwnFrom.and (Own.from (boxed_own _ _ (fun _ => .int .i64 (-1))) _) (ownFrom_below (Nat.le_refl _) (by omega))))
    ⟨⟨rfl, hbR0⟩, hbw0, hB0⟩
    (fun x a' _ => a' = { tmps := #[.slice A0 m c0, .slice A1 m c1, undef, undef, .pointer (some ⟨w.heap.size, 0, none⟩), .pointer (some ⟨w.heap.size + 1, 0, none⟩), .slice (aa x) (xs x).length (ca x), .slice (bb x) (ys x).length (cb x), undef, undef, .slice A0 m c0, .int .i64 (m : Nat), .slice A1 m c1, .int .i64 (m : Nat), .bool false, .slice A0 m c0, .slice A1 m c1, .func (.func 73) #[] #[.pointer (some ⟨w.heap.size + 1 + 1, 0, none⟩), .pointer (some ⟨w.heap.size + 1 + 1 + 1, 0, none⟩)], .slice (aa x) (xs x).length (ca x), .slice (bb x) (ys x).length (cb x), undef, undef, undef, undef, undef, undef, undef, undef, undef, undef, undef, undef, undef, undef, undef, undef, undef, undef, undef, undef, undef, undef, undef, undef, undef, undef, undef], defers := [] }) (fun _ _ _ _ _ _ hs _ _ => hs) ?assign ?body ?done ?stop
  case hc1 =>
    intro i hi
    obtain ⟨ad, hA, _, _, hc⟩ := HX.out i hi
    have := World.block_lt_of_cell? _ _ hc
    rw [addr_add_block] at this
    exact ⟨ad, hA, by rw [hsz]; omega, (hB0.cell (p := ad.add i) (World.block_lt_of_cell? _ _ hc)).trans hc⟩
  case hc2 =>
    intro i hi
    obtain ⟨ad, hA, _, _, hc⟩ := HY.out i hi
    have := World.block_lt_of_cell? _ _ hc
    rw [addr_add_block] at this
    exact ⟨ad, hA, by rw [hsz]; omega, (hB0.cell (p := ad.add i) (World.block_lt_of_cell? _ _ hc)).trans hc⟩
  case assign =>
    intro l pre x W K hi hK
    gi_wp2
    exact hK _ _ (KeepsFrom.refl _ _) (Kept.refl _ _) hi rfl
  case body =>
    rintro l pre x a' W hl ⟨r, hr⟩ ⟨⟨hgood, hbR⟩, hbw, hB⟩ rfl hlt
    obtain ⟨adx, -, hlx, hCx, -⟩ := HX.out x x.isLt
    obtain ⟨ady, -, hly, hCy, -⟩ := HY.out x x.isLt
    have hx0 := row_cells hCx
    have hy0 := row_cells hCy
    replace hCx := Kd.C_below hCx hB
    replace hCy := Kd.C_below hCy hB
    have hcR := hbR.cell
    have hfR := hbR.frozen
    by_cases hle : (xs x).length = (ys x).length
    · have hle' : (((xs x).length : Nat) : Int) = (((ys x).length : Nat) : Int) := by omega
      have hnX := gain_near_run (aa x) (ca x) (xs x) W hCx
      have hnY := fun W' hW' => gain_near_run (bb x) (cb x) (ys x) W' (Kd.C_below hCy hW')
      cases hgx : nearB (xs x) with
      | false =>
        have hbad : rowGood (xs x) (ys x) = false := by unfold rowGood; rw [hgx]; simp
        rw [hgx] at hnX
        have HN := Aside0.mk hnX
        clear hnX hnY
        generalize (xs x).length = p at *
        generalize (ys x).length = q at *
        obtain rfl := hle
        clear hle'
        gi_wp2_with fail
        refine (callsR HN.out).mono ?_
        rintro e w1 ⟨rfl, hb1'⟩
        have hbR1 := boxed_below hbR hb1'
        have hcR1 := hbR1.cell
        have hfR1 := hbR1.frozen
        gi_wp2
        refine ⟨keepsFrom_kept (S := fun k => k = w.heap.size ∨ k = w.heap.size + 1) (kept_t (Kept.of_below hb1' _) (kept_set _ (.inl rfl))) (by omega), ⟨rfl, x, hbad⟩, hbR1.set _, (below_step hB hb1').setCell (Nat.le_refl _) _⟩
      | true =>
        rw [hgx] at hnX
        have HN := Aside0.mk hnX
        have HNY := Aside0.mk hnY
        clear hnX hnY
        cases hgy : nearB (ys x) with
        | false =>
          have hbad : rowGood (xs x) (ys x) = false := by unfold rowGood; rw [hgy]; simp
          rw [hgy] at HNY
          generalize (xs x).length = p at *
          generalize (ys x).length = q at *
          obtain rfl := hle
          clear hle'
          gi_wp2_with fail
          refine (callsR HN.out).mono ?_
          rintro e w1 ⟨rfl, hb1'⟩
          gi_wp2_with fail
          refine (callsR (HNY.out _ hb1')).mono ?_
          rintro e w2 ⟨rfl, hb2'⟩
          have hb2' := below_step hb1' hb2'
          have hbR1 := boxed_below hbR hb2'
          have hcR1 := hbR1.cell
          have hfR1 := hbR1.frozen
          gi_wp2
          refine ⟨keepsFrom_kept (S := fun k => k = w.heap.size ∨ k = w.heap.size + 1) (kept_t (Kept.of_below hb2' _) (kept_set _ (.inl rfl))) (by omega), ⟨rfl, x, hbad⟩, hbR1.set _, (below_step hB hb2').setCell (Nat.le_refl _) _⟩
        | true =>
          have hgd : rowGood (xs x) (ys x) = true := by unfold rowGood; rw [hgx, hgy]; simp [hle]
          rw [hgy] at HNY
          have hall : (pre ++ [x]).all (fun i : Fin m => rowGood (xs i) (ys i)) = true := by rw [List.all_append, hgood]; simp [hgd]
          have hfold : (pre ++ [x]).foldl (fun n (i : Fin m) => rowV (xs i) (ys i) n (xs i).length) 0 = (List.finRange (xs x).length).foldl (fun n (j : Fin (xs x).length) => stepV (fun j => (xs x).getD j 0) (fun j => (ys x).getD j 0) n j) (pre.foldl (fun n (i : Fin m) => rowV (xs i) (ys i) n (xs i).length) 0) := by rw [List.foldl_append]; rfl
          have hlm := Kd.C_max hCx
          rw [← hle] at HNY hCy hly hy0
          rw [← hle]
          have HF := Lib.hid hfold
          have HALL := Lib.hid hall
          have HGD := Lib.hid hgood
          clear hfold hall hgood hle hle' hgd
          have hndx := Aside0.mk (near_bd hgx)
          have hndy := Aside0.mk (near_bd hgy)
          have HX0 := Aside0.mk hx0
          have HY0 := Aside0.mk hy0
          clear hx0 hy0
          generalize pre.foldl (fun n (i : Fin m) => rowV (xs i) (ys i) n (xs i).length) 0 = cur at *
          generalize aa x = ax at *
          generalize bb x = ay at *
          generalize ca x = cx at *
          generalize cb x = cy at *
          generalize xs x = X at *
          generalize ys x = Y at *
          generalize hp : X.length = p at *
          obtain ⟨fx, hfx⟩ : ∃ fx : Nat → Int, fx = fun j => X.getD j 0 := ⟨_, rfl⟩
          obtain ⟨fy, hfy⟩ : ∃ fy : Nat → Int, fy = fun j => Y.getD j 0 := ⟨_, rfl⟩
          rw [← hfx, ← hfy] at HF
          have hndx : Aside0 (∀ i, -1048576 ≤ fx i ∧ fx i ≤ 1048576) := ⟨by rw [hfx]; exact hndx.out⟩
          have hndy : Aside0 (∀ i, -1048576 ≤ fy i ∧ fy i ≤ 1048576) := ⟨by rw [hfy]; exact hndy.out⟩
          have HX0 : Aside0 (∀ i, i < p → ∃ ad : Addr, ax = some ad ∧ ad.block < w.heap.size ∧ w.cell? (ad.add i) = some (.int .i64 (fx i))) := ⟨by rw [hfx]; exact HX0.out⟩
          have HY0 : Aside0 (∀ i, i < p → ∃ ad : Addr, ay = some ad ∧ ad.block < w.heap.size ∧ w.cell? (ad.add i) = some (.int .i64 (fy i))) := ⟨by rw [hfy]; exact HY0.out⟩
          clear hfx hfy
          have HP := Lib.hid hp
          clear hp
          gi_wp2_with fail
          refine (callsR HN.out).mono ?_
          rintro e w1 ⟨rfl, hb1'⟩
          gi_wp2_with fail
          refine (callsR (HNY.out _ hb1')).mono ?_
          rintro e w2 ⟨rfl, hb2'⟩
          have hb2' := below_step hb1' hb2'
          gi_wp2_with fail
          refine (callsR (zip_ii _ _ _ _ _ _ _)).mono ?_
          rintro e w3 ⟨rfl, rfl⟩
          gi_wp2_with fail
          obtain ⟨W3, hW3⟩ : ∃ W3, W3 = ((w2.alloc (.cells #[.slice ax p cx] 59)).alloc (.cells #[.slice ay p cy] 59)) := ⟨_, rfl⟩
          rw [← hW3]
          have hB3 : Below W.heap.size W W3 := by rw [hW3]; exact below_alloc (below_alloc hb2' _) _
          have hs3 : W3.heap.size = w2.heap.size + 2 := by rw [hW3]; simp
          have hb31 : Boxed W3 w2.heap.size 59 (.slice ax p cx) := by rw [hW3]; exact (Boxed.new w2 59 (.slice ax p cx)).alloc _
          have hb32 : Boxed W3 (w2.heap.size + 1) 59 (.slice ay p cy) := by
            have := Boxed.new (w2.alloc (.cells #[.slice ax p cx] 59)) 59 (.slice ay p cy)
            rw [World.size_alloc] at this
            rw [hW3]; exact this
          have hw2 := hb2'.size
          have hWs := hbw.lt
          have hr3 : W3.heap[l]? = some (.loop r) := (hB3.block l (Array.getElem?_eq_some_iff.1 hr).1).trans hr
          have hbR3 := boxed_below hbR hB3
          have hbw3 := boxed_below hbw hB3
          have hCx3 := Kd.C_below hCx hB3
          have hCy3 := Kd.C_below hCy hB3
          clear hW3
          refine wpIn_rangeFunc_ownN (F := WR l) (n := 7) (l₀ := l) (r₀ := r) rfl hr3 (by decide) (gf := 65) (lb := #[.pointer (some ⟨w2.heap.size, 0, none⟩), .pointer (some ⟨w2.heap.size + 1, 0, none⟩)]) rfl trivial (enters_of Try.func65 (by kernel_rfl) rfl)
            ((zip_ii_stops (n := 6) (by decide) w2.heap.size ax ay cx cy p (fun i => .int .i64 (fx i)) (fun i => .int .i64 (fy i)) (fun k => (k = w.heap.size ∨ k = w.heap.size + 1) ∨ W3.heap.size ≤ k) W3 hb31.cell hb32.cell (by omega) (by omega) ?hc3 ?hc4 hlm).inRound l)
            (fun h k => kept_t h k) (fun W l o o' hl ho _ _ => kept_put (.inr hl)) (Below.refl _ _) (fun _ => rfl)
            (fun pre2 W' => (Boxed W' w.heap.size 3 (.int .i64 0) ∧ Boxed W' (w.heap.size + 1) 3 (.int .i64 (pre2.foldl (fun n (j : Fin p) => stepV fx fy n j) cur))) ∧ Kept W W' (fun k => k = w.heap.size ∨ k = w.heap.size + 1) ∧ Below w.heap.size w W')
            (fun _ _ _ => False)
            (OwnFrom.and (OwnFrom.and (Own.from (boxed_own _ _ (fun _ => .int .i64 0)) _) (Own.from (boxed_own _ _ (fun pre2 : List (Fin p) => .int .i64 (pre2.foldl (fun n (j : Fin p) => stepV fx fy n j) cur))) _)) (OwnFrom.and (ownFrom_kept (by omega)) (ownFrom_below (Nat.le_refl _) (by omega))))
            (fun _ _ _ _ _ hs _ _ => hs)
            ⟨⟨hbR3, hbw3⟩, Kept.of_below hB3 _, below_step hB hB3⟩
            (fun y a' _ => a' = { tmps := #[.slice A0 m c0, .slice A1 m c1, undef, undef, .pointer (some ⟨w.heap.size, 0, none⟩), .pointer (some ⟨w.heap.size + 1, 0, none⟩), .slice ax p cx, .slice ay p cy, .int .i64 (fx y), .int .i64 (fy y), .slice A0 m c0, .int .i64 (m : Nat), .slice A1 m c1, .int .i64 (m : Nat), .bool false, .slice A0 m c0, .slice A1 m c1, .func (.func 73) #[] #[.pointer (some ⟨w.heap.size + 1 + 1, 0, none⟩), .pointer (some ⟨w.heap.size + 1 + 1 + 1, 0, none⟩)], .slice ax p cx, .slice ay p cy, .slice ax p cx, .int .i64 (p : Nat), .slice ay p cy, .int .i64 (p : Nat), .bool false, .bool false, .slice ax p cx, .bool true, .bool false, .bool false, .bool false, .slice ay p cy, .bool true, .bool false, .bool false, .slice ax p cx, .slice ay p cy, .func (.func 65) #[] #[.pointer (some ⟨w2.heap.size, 0, none⟩), .pointer (some ⟨w2.heap.size + 1, 0, none⟩)], .int .i64 (fx y), .int .i64 (fy y), undef, undef, undef, undef, undef, undef, undef], defers := [] }) (fun _ _ _ _ _ _ hs _ _ => hs) ?assign2 ?body2 ?done2 ?stop2
          case hc3 =>
            intro i hi
            obtain ⟨ad, hA, hlt', hc⟩ := HX0.out i hi
            exact ⟨ad, hA, by omega, ((below_step hB hB3).cell (p := ad.add i) (World.block_lt_of_cell? _ _ hc)).trans hc⟩
          case hc4 =>
            intro i hi
            obtain ⟨ad, hA, hlt', hc⟩ := HY0.out i hi
            exact ⟨ad, hA, by omega, ((below_step hB hB3).cell (p := ad.add i) (World.block_lt_of_cell? _ _ hc)).trans hc⟩
          case assign2 =>
            intro l2 pre2 y W4 K hi hK
            gi_wp2
            exact hK _ _ (KeepsFrom.refl _ _) (Kept.refl _ _) hi rfl
          case body2 =>
            rintro l2 pre2 y a'' W4 hl2 _ ⟨⟨hbR4, hbw4⟩, hK4, hB4⟩ rfl hlt2
            have hf2 : (pre2 ++ [y]).foldl (fun n (j : Fin p) => stepV fx fy n j) cur = (if pre2.foldl (fun n (j : Fin p) => stepV fx fy n j) cur < iabs (fx y - fy y) then iabs (fx y - fy y) else pre2.foldl (fun n (j : Fin p) => stepV fx fy n j) cur) := by rw [List.foldl_append]; rfl
            have hux := hndx.out y
            have huy := hndy.out y
            generalize pre2.foldl (fun n (j : Fin p) => stepV fx fy n j) cur = c2 at *
            generalize fx y = u at *
            generalize fy y = v at *
            have HSUB := Aside0.mk (show IntKind.i64.wrap (u - v) = u - v by rw [i64_w]; unfold wrap64; omega)
            have habs := abs_f (u - v) (by omega) (by omega)
            have HF2 := Lib.hid hf2
            clear hf2
            generalize iabs (u - v) = a at *
            gi_wp2
            refine startX_ (m := 7) (S := fun w' => w'.cell? ⟨w.heap.size + 1, 0, none⟩ = some (.int .i64 c2)) (ds := [6]) #[false, false, false, false, false, false, false] (fun _ => trivial) (by kernel_rfl) (by kernel_rfl) rfl rfl hbw4.cell (fun hHeld => ?_); refine with_tabX WorstIn.tab12 WorstIn.bits12 (fun HT_ HW_ => ?_)
            refine pureX_ (i := 1) (N := (some 41)) (v := ?_) (a' := ?_) #[false, true, false, false, false, false, false] rfl rfl (any_of HT_.out (by kernel_rfl)) (fun _ _ _ h => h) (Or.inl ⟨by rfl, ?_⟩) ?_ ?_
            rotate_left
            · intro w'
              go_simp
              with_reducible rfl
            rotate_left
            · simp only [Act.put, List.setIfInBounds_toArray, List.set_cons_zero, List.set_cons_succ, i64_w, i32_w]
              rfl
            refine pureX_ (i := 2) (N := (some 42)) (v := ?_) (a' := ?_) #[false, true, true, false, false, false, false] rfl rfl (any_of HT_.out (by kernel_rfl)) (fun _ _ _ h => h) (Or.inl ⟨by rfl, ?_⟩) ?_ ?_
            rotate_left
            · intro w'
              go_simp
              with_reducible rfl
            rotate_left
            · simp only [Act.put, List.setIfInBounds_toArray, List.set_cons_zero, List.set_cons_succ, i64_w, i32_w]
              rfl
            refine pureX_ (i := 3) (N := (some 43)) (v := ?_) (a' := ?_) #[false, true, true, true, false, false, false] rfl rfl (any_of HT_.out (by kernel_rfl)) (fun _ _ _ h => h) (Or.inl ⟨by rfl, ?_⟩) ?_ ?_
            rotate_left
            · intro w'
              go_simp
              rw [HSUB.out]
            rotate_left
            · simp only [Act.put, List.setIfInBounds_toArray, List.set_cons_zero, List.set_cons_succ, i64_w, i32_w]
              rfl
            refine takeX_ (i := 0) (N := (some 40)) (v := ?_) (a' := ?_) #[true, true, true, true, false, false, false] rfl rfl (take_ofW HT_.out HW_.out (by kernel_rfl)) (fun _ _ _ h => h) (Or.inl ⟨by rfl, ?_⟩) hHeld ?_ ?_
            rotate_left
            · intro w' hS_
              go_simp
              go_simp; with_reducible rfl
            rotate_left
            · simp only [Act.put, List.setIfInBounds_toArray, List.set_cons_zero, List.set_cons_succ, i64_w, i32_w]
              rfl
            refine oneX_ (i := 4) (N := (some 44)) #[true, true, true, true, true, false, false] rfl rfl (one_of HT_.out (by kernel_rfl)) (by decide) (fun K hK => ?_)
            refine goesX_ Try.func59 (by kernel_rfl) rfl #[.int .i64 (u - v)] (by rfl) rfl rfl (by (try simp only [List.map_toArray, List.map_cons, List.map_nil]); first | done | rfl) ?_
            refine (num_Abs.calls 3 (u - v) _ _ habs).mono ?_
            rintro e w5 ⟨rfl, hb5⟩
            refine ⟨_, rfl, ?_⟩
            have hbw5 := boxed_below (W := W4.drew) hbw4 hb5
            have hcw5 := hbw5.cell
            have hfw5 := hbw5.frozen
            refine hK.out _ _ hcw5 (fun hHeld => ?_)
            clear hK K
            refine normX_ (a' := ?_) ?_ ?_
            rotate_left
            · show Act.put _ (some 44) _ = _
              simp only [Act.put, List.setIfInBounds_toArray, List.set_cons_zero, List.set_cons_succ, i64_w, i32_w]
              rfl
            refine pureX_ (i := 5) (N := (some 45)) (v := ?_) (a' := ?_) #[true, true, true, true, true, true, false] rfl rfl (any_of HT_.out (by kernel_rfl)) (fun _ _ _ h => h) (Or.inl ⟨by rfl, ?_⟩) ?_ ?_
            rotate_left
            · intro w'
              go_simp
              with_reducible rfl
            rotate_left
            · simp only [Act.put, List.setIfInBounds_toArray, List.set_cons_zero, List.set_cons_succ, i64_w, i32_w]
              rfl
            refine lastX_ (i := 6) (N := none) #[true, true, true, true, true, true, true] rfl rfl (one_of HT_.out (by kernel_rfl)) (by decide) (fun K hK => ?_)
            go_simp
            refine hK.out _ _ ?_
            clear hK K
            refine doneX_ (done_of HT_.out (by kernel_rfl)) ?_
            generalize (if c2 < a then a else c2) = c3 at *
            gi_wp2
            have hk5 : Kept W4 (w5.setCell ⟨w.heap.size + 1, 0, none⟩ (.int .i64 c3)) (fun k => k = w.heap.size ∨ k = w.heap.size + 1) := kept_t (show Kept W4 w5 _ from (Kept.of_below (w := W4.drew) hb5 _)) (kept_set _ (.inr rfl))
            exact ⟨keepsFrom_kept hk5 (by omega), hk5.mono (fun _ h => .inl h), ⟨boxed_kept (boxed_below (W := W4.drew) hbR4 hb5) (S := fun k => k = w.heap.size + 1) (kept_set _ rfl) (by omega), by rw [HF2.out]; exact hbw5.set _⟩, kept_t hK4 hk5, (below_step (Below.drew hB4) hb5).setCell (by show _ ≤ w.heap.size + 1; omega) _⟩
          case done2 =>
            rintro zs W5 rfl ⟨⟨hbR5, hbw5⟩, hK5, hB5⟩
            gi_wp2
            exact ⟨keepsFrom_kept hK5 (by omega), hK5.mono (fun _ h => .inl h), ⟨HALL.out, hbR5⟩, by rw [HF.out]; exact hbw5, hB5⟩
          case stop2 =>
            rintro c pre2 W5 _ h
            exact h.elim
    · have hbad : rowGood (xs x) (ys x) = false := by unfold rowGood; simp [hle]
      have hne : ((((xs x).length : Nat) : Int) != (((ys x).length : Nat) : Int)) = true := by rw [bne_iff_ne]; omega
      generalize (xs x).length = p at *
      generalize (ys x).length = q at *
      gi_wp2
      refine ⟨keepsFrom_kept (S := fun k => k = w.heap.size ∨ k = w.heap.size + 1) (kept_set _ (.inl rfl)) (by omega), ⟨rfl, x, hbad⟩, hbR.set _, hB.setCell (Nat.le_refl _) _⟩
  case done =>
    rintro D zs W hD rfl ⟨⟨hgood, hbR⟩, hbw, hB⟩ hK
    have hcR := hbR.cell
    have hfR := hbR.frozen
    have hcw := hbw.cell
    have hV : V = (List.finRange m).foldl (fun n (i : Fin m) => rowV (xs i) (ys i) n (xs i).length) 0 := by rw [HV.out, worstAns, if_pos hgood]
    rw [← hV] at hcw
    clear hV
    go_wp2
    refine leavesM (B := w.heap.size) [D] _ ((Marked.nil _ _).cons (by omega) ((KeepsOthers.setCell ..).same D _ hK rfl) (by simp)) ?_
    intro W' ⟨hs, hb⟩
    have hc5 := cell_settled (hbR.set (.int .i64 V)).cell hs
    exact ⟨.int .i64 V, by simp [results, Try.f36, go_sem, hc5], rfl, (hB.setCell (Nat.le_refl _) _).trans hb⟩
  case stop =>
    rintro D c pre W hD _ ⟨⟨rfl, i, hbad⟩, hbR, hB⟩ hK
    have hV : V = -1 := by
      rw [HV.out, worstAns, if_neg]
      intro h
      rw [List.all_eq_true] at h
      rw [h i (List.mem_finRange i)] at hbad
      cases hbad
    subst hV
    refine wpIn_wide.2 ?_
    go_wp2
    refine leavesM (B := w.heap.size) [D] _ ((Marked.nil _ _).cons (by omega) hK (by simp)) ?_
    intro W' ⟨hs, hb⟩
    have hc5 := cell_settled hbR.cell hs
    exact ⟨.int .i64 (-1), by simp [results, Try.f36, go_sem, hc5], rfl, hB.trans hb⟩
def worstL (l0 l1 : List (List Int)) : Int := if l0.length = l1.length then worstAns l0.length (fun i => l0.getD i []) (fun i => l1.getD i []) else -1
def gain_Worst.f (l0 : List (List Int)) (l1 : List (List Int)) : Option Int := some (worstL l0 l1)
set_option maxHeartbeats 1000000 in
set_option maxRecDepth 100000 in
theorem gain_Worst.calls (A0 : Option Addr) (c0 : Nat) (l0 : List (List Int)) (A1 : Option Addr) (c1 : Nat) (l1 : List (List Int)) (r : Int) (w : World) (hr0 : Kd.C (Kd.slice 3 (Kd.int .i64)) w A0 l0.length l0) (hc0 : l0.length ≤ c0) (hr1 : Kd.C (Kd.slice 3 (Kd.int .i64)) w A1 l1.length l1) (hc1 : l1.length ≤ c1) (h : gain_Worst.f l0 l1 = some r) :
    Calls Try.prog 36 #[.slice A0 l0.length c0, .slice A1 l1.length c1] w fun e w' => e = .returned (.int .i64 r) ∧ Below w.heap.size w w' := by
  obtain rfl := Option.some.inj h
  clear h
  unfold worstL
  by_cases hl : l0.length = l1.length
  · rw [if_pos hl]
    obtain ⟨aa, ca, hx⟩ := IdxX.rows_open hr0
    obtain ⟨bb, cb, hy⟩ := IdxX.rows_open hr1
    have hm := Kd.C_max hr0
    rw [← hl] at hy
    rw [← hl]
    exact gain_Worst_eq A0 A1 c0 c1 l0.length (fun i => l0.getD i []) (fun i => l1.getD i []) aa bb ca cb w hm hx hy
  · rw [if_neg hl]
    have hne : ((((l0.length : Nat) : Int)) != ((l1.length : Nat) : Int)) = true := by rw [bne_iff_ne]; omega
    generalize l0.length = p at *
    generalize l1.length = q at *
    refine calls_marks Try.func36 rfl ?_
    simp only [Try.ntmps36, List.size_toArray, List.length_cons, List.length_nil, Nat.reduceAdd, Nat.reduceSub, Array.replicate_succ, Array.replicate_zero, List.push_toArray, List.append_toArray, List.nil_append, List.cons_append]
    go_wp2
    refine leavesM (B := w.heap.size) [] _ (Marked.nil _ _) ?_
    intro W' ⟨hs, hb⟩
    have hc5 := cell_settled (Boxed.new w 3 (.int .i64 (-1))).cell hs
    exact ⟨.int .i64 (-1), by simp [results, Try.f36, go_sem, hc5], rfl, (below_alloc (Below.refl _ _) _).trans hb⟩
end

/-! ### splicerref01_Same: function 46 -/
def splicerref01_Same.l0 : Nat → List Int → List Int → Int → Option (Bool)
  | 0, _, _, _ => none
  | k + 1, x0, x1, x5 => if x5 < (x0.length : Int) then (if 0 ≤ x5 then (if x5 < (x1.length : Int) then (if (rd x0 x5) = (rd x1 x5) then (splicerref01_Same.l0 k x0 x1 (wrap64 (x5 + 1))) else (some false)) else (none)) else (none)) else (some true)
def splicerref01_Same.f (k : Nat) (l0 : List Int) (l1 : List Int) : Option (Bool) := if (l0.length : Int) = (l1.length : Int) then (splicerref01_Same.l0 k l0 l1 0) else (some false)
theorem splicerref01_Same.mono_l : ∀ k, (∀ y0 y1 y2, LeO (splicerref01_Same.l0 k y0 y1 y2) (splicerref01_Same.l0 (k + 1) y0 y1 y2))
  | 0 => fun _ _ _ r h => by simp [splicerref01_Same.l0] at h
  | k + 1 => by
    have ih0 := splicerref01_Same.mono_l k
    · intro y0 y1 y2
      unfold splicerref01_Same.l0
      repeat' first
      | (with_reducible exact ih0 _ _ _)
      | (with_reducible exact LeO.refl _)
      | (with_reducible exact LeO.none _)
      | (with_reducible refine LeO.ite ?_ ?_)
      | (with_reducible refine LeO.bind ?_ (fun _ => ?_))
      | exact ih0 _ _ _
      | exact LeO.none _
      | refine LeO.ite ?_ ?_
      | refine LeO.bind ?_ (fun _ => ?_)
theorem splicerref01_Same.mono : ∀ a0 a1 k, LeO (splicerref01_Same.f k a0 a1) (splicerref01_Same.f (k + 1) a0 a1) := by
  intro a0 a1 k
  have ih0 := splicerref01_Same.mono_l k
  unfold splicerref01_Same.f
  repeat' first
      | (with_reducible exact ih0 _ _ _)
      | (with_reducible exact LeO.refl _)
      | (with_reducible exact LeO.none _)
      | (with_reducible refine LeO.ite ?_ ?_)
      | (with_reducible refine LeO.bind ?_ (fun _ => ?_))
      | exact ih0 _ _ _
      | exact LeO.none _
      | refine LeO.ite ?_ ?_
      | refine LeO.bind ?_ (fun _ => ?_)
set_option maxHeartbeats 8000000 in
set_option maxRecDepth 100000 in
theorem splicerref01_Same.calls (k : Nat) (A0 : Option Addr) (c0 : Nat) (l0 : List Int) (A1 : Option Addr) (c1 : Nat) (l1 : List Int) (r : Bool) (w : World) (hr0 : Kd.C (Kd.int .i64) w A0 l0.length l0) (hc0 : l0.length ≤ c0) (hr1 : Kd.C (Kd.int .i64) w A1 l1.length l1) (hc1 : l1.length ≤ c1) (h : splicerref01_Same.f k l0 l1 = some r) :
    Calls Try.prog 46 #[.slice A0 l0.length c0, .slice A1 l1.length c1] w fun e w' => e = .returned (.bool r) ∧ Drawn0 w w' := by
  have HR0 := Aside0.mk hr0
  have HC0 := Aside0.mk hc0
  clear hr0 hc0
  have HR1 := Aside0.mk hr1
  have HC1 := Aside0.mk hc1
  clear hr1 hc1
  have H : (if (l0.length : Int) = (l1.length : Int) then (splicerref01_Same.l0 k l0 l1 0) else (some false)) = some r := h
  clear h
  by_cases c3 : (l0.length : Int) = (l1.length : Int)
  · rw [if_pos c3] at H
    have c3b0 : ((l0.length : Int) == (l1.length : Int)) = true := beq_iff_eq.mpr c3
    have c3b1 : ((l0.length : Int) != (l1.length : Int)) = false := bne_eq_false_iff_eq.mpr c3
    have c3b2 : (l0.length == l1.length) = true := by first | simpa using c3 | (simp at c3 ⊢; omega)
    clear c3
    have H' := Aside0.mk H
    clear H
    go_enter Try.func46, Try.ntmps46
    go_wp2
    repeat (go_quiet (fail); try go_wp2)
    go_loopg [5] k (fun kq v5 w' => ∃ (x5_1 : Int), v5 = .int .i64 x5_1 ∧ Aside0 (splicerref01_Same.l0 kq l0 l1 x5_1 = some r) ∧ Aside0 (kq ≤ k) ∧ Drawn0 w w')
    case atStart => exact ⟨(0), (by first | rfl | (simp; done) | (simp [*]; done)), H', ⟨Nat.le_refl _⟩, by repeat (first | exact Drawn0.refl _ | apply Drawn0.step)⟩
    case round =>
      clear H'
      try clear c1
      try clear p2
      try clear c3
      try clear c3b0
      try clear c3b1
      try clear c3b2
      obtain ⟨x5_1, rfl, HA, HK1, ⟨m1, rfl⟩⟩ := hrel
      cases gk with
      | zero => exact absurd HA.out (by simp [splicerref01_Same.l0])
      | succ k1 =>
        have H := HA.out
        clear HA
        simp only [splicerref01_Same.l0] at H
        by_cases c4 : x5_1 < (l0.length : Int)
        · rw [if_pos c4] at H
          have c4b0 : decide (x5_1 < (l0.length : Int)) = true := decide_eq_true c4
          clear c4
          by_cases c5 : 0 ≤ x5_1
          · rw [if_pos c5] at H
            have c5b0 : decide (0 ≤ x5_1) = true := decide_eq_true c5
            clear c5
            by_cases c6 : x5_1 < (l1.length : Int)
            · rw [if_pos c6] at H
              have c6b0 : decide (x5_1 < (l1.length : Int)) = true := decide_eq_true c6
              clear c6
              by_cases c7 : (rd l0 x5_1) = (rd l1 x5_1)
              · rw [if_pos c7] at H
                have c7b0 : ((rd l0 x5_1) == (rd l1 x5_1)) = true := beq_iff_eq.mpr c7
                have c7b1 : ((rd l0 x5_1) != (rd l1 x5_1)) = false := bne_eq_false_iff_eq.mpr c7
                clear c7
                have H' := Aside0.mk H
                clear H
                have p122 : 0 ≤ (x5_1 : Int) := of_decide_eq_true (by first | (with_reducible assumption) | assumption)
                have q122 : x5_1 < (l0.length : Int) := of_decide_eq_true (by first | (with_reducible assumption) | assumption)
                obtain ⟨ad122, e122, hx122_0⟩ := Kd.at_int HR0.out x5_1 p122 q122
                cases e122
                replace p122 := eq_true p122
                replace q122 := eq_true q122
                have p123 : 0 ≤ (x5_1 : Int) := of_decide_eq_true (by first | (with_reducible assumption) | assumption)
                have q123 : x5_1 < (l1.length : Int) := of_decide_eq_true (by first | (with_reducible assumption) | assumption)
                obtain ⟨ad123, e123, hx123_0⟩ := Kd.at_int HR1.out x5_1 p123 q123
                cases e123
                replace p123 := eq_true p123
                replace q123 := eq_true q123
                go_wp2
                repeat (go_quiet (fail); try go_wp2)
                go_roundg k1
                case measure => have := HK1.out; omega
                case rel => exact ⟨(wrap64 (x5_1 + 1)), (by first | rfl | (simp; done) | (simp [*]; done)), H', ⟨by have := HK1.out; omega⟩, by repeat (first | exact Drawn0.refl _ | apply Drawn0.step)⟩
              · rw [if_neg c7] at H
                have c7b0 : ((rd l0 x5_1) == (rd l1 x5_1)) = false := beq_eq_false_iff_ne.mpr c7
                have c7b1 : ((rd l0 x5_1) != (rd l1 x5_1)) = true := bne_iff_ne.mpr c7
                obtain rfl := Option.some.inj H
                have p122 : 0 ≤ (x5_1 : Int) := of_decide_eq_true (by first | (with_reducible assumption) | assumption)
                have q122 : x5_1 < (l0.length : Int) := of_decide_eq_true (by first | (with_reducible assumption) | assumption)
                obtain ⟨ad122, e122, hx122_0⟩ := Kd.at_int HR0.out x5_1 p122 q122
                cases e122
                replace p122 := eq_true p122
                replace q122 := eq_true q122
                have p123 : 0 ≤ (x5_1 : Int) := of_decide_eq_true (by first | (with_reducible assumption) | assumption)
                have q123 : x5_1 < (l1.length : Int) := of_decide_eq_true (by first | (with_reducible assumption) | assumption)
                obtain ⟨ad123, e123, hx123_0⟩ := Kd.at_int HR1.out x5_1 p123 q123
                cases e123
                replace p123 := eq_true p123
                replace q123 := eq_true q123
                go_wp2
                repeat (go_quiet (fail); try go_wp2)
                go_ret
                exact ⟨by first | rfl | (simp; done) | (simp [*]; done), by repeat (first | exact Drawn0.refl _ | apply Drawn0.step)⟩
            · rw [if_neg c6] at H
              exact absurd H (by simp)
          · rw [if_neg c5] at H
            exact absurd H (by simp)
        · rw [if_neg c4] at H
          have c4b0 : decide (x5_1 < (l0.length : Int)) = false := decide_eq_false c4
          clear c4
          obtain rfl := Option.some.inj H
          go_wp2
          repeat (go_quiet (fail); try go_wp2)
          go_ret
          exact ⟨by first | rfl | (simp; done) | (simp [*]; done), by repeat (first | exact Drawn0.refl _ | apply Drawn0.step)⟩
  · rw [if_neg c3] at H
    have c3b0 : ((l0.length : Int) == (l1.length : Int)) = false := beq_eq_false_iff_ne.mpr c3
    have c3b1 : ((l0.length : Int) != (l1.length : Int)) = true := bne_iff_ne.mpr c3
    have c3b2 : (l0.length == l1.length) = false := by first | simpa using c3 | (simp at c3 ⊢; omega)
    obtain rfl := Option.some.inj H
    go_enter Try.func46, Try.ntmps46
    go_wp2
    repeat (go_quiet (fail); try go_wp2)
    go_ret
    exact ⟨by first | rfl | (simp; done) | (simp [*]; done), by repeat (first | exact Drawn0.refl _ | apply Drawn0.step)⟩

/-! ### splicerlaw25_awake: function 29 -/
section
open IdxX
theorem awake25_sound : gain_Sound.f [[100, 200]] [4, 0] = some [[200, 200]] := by
  have e1 : GL.applyS 100 4 = 200 := by unfold GL.applyS; rw [GL.w64 (by decide +kernel) (by decide +kernel)]; decide +kernel
  have e2 : GL.applyS 200 0 = 200 := by unfold GL.applyS; rw [GL.w64 (by decide +kernel) (by decide +kernel)]; decide +kernel
  have h : rowS (fun j => [(100 : Int), 200].getD j 0) (fun j => [(4 : Int), 0].getD j 0) 2 = [200, 200] := by
    show [GL.applyS 100 4, GL.applyS 200 0] = _
    rw [e1, e2]
  have hg : gainR [[100, 200]] [4, 0] = true := by decide
  unfold gain_Sound.f soundL
  rw [if_pos (by decide), hg, if_pos rfl]
  show some [rowS (fun j => [(100 : Int), 200].getD j 0) (fun j => [(4 : Int), 0].getD j 0) 2] = _
  rw [h]
theorem awake25_worst : gain_Worst.f [[200, 200]] [[100, 200]] = some 100 := by decide
theorem awake25_none : gain_Worst.f [] [[100, 200]] = some (-1) := by decide
theorem awake25_fade : gain_Fade.f 20 0 4 5 1 = some 1 := by decide +kernel
theorem awake25_same : splicerref01_Same.f 5 [200, 200] [200, 200] = some true := by decide +kernel
set_option maxHeartbeats 1000000 in
set_option maxRecDepth 100000 in
theorem awake25_run (w : World) : Calls Try.prog 29 #[] w fun e w' => e = .returned (.bool true) ∧ Below w.heap.size w w' := by
  have hu61 := Try.underlying61
  obtain ⟨W0, hW0⟩ : ∃ W0, W0 = ((((w.alloc (.cells #[.int .i64 100, .int .i64 200] 3)).alloc (.cells #[.slice (some ⟨w.heap.size, 0, none⟩) 2 2] 59)).alloc (.cells #[.int .i64 4, .int .i64 0] 3)).alloc (.cells #[.slice (some ⟨w.heap.size + 1, 0, none⟩) 1 1, .slice (some ⟨w.heap.size + 1 + 1, 0, none⟩) 2 2] 61)) := ⟨_, rfl⟩
  have hB0 : Below w.heap.size w W0 := by rw [hW0]; exact below_alloc (below_alloc (below_alloc (below_alloc (Below.refl _ _) _) _) _) _
  have hs0 : W0.heap.size = w.heap.size + 4 := by rw [hW0]; simp
  have k0 : W0.heap[w.heap.size]? = some (.cells #[.int .i64 100, .int .i64 200] 3 (0, 0)) := by rw [hW0]; exact blk_alloc (blk_alloc (blk_alloc (blk_new w _) _) _) _
  have k1 : W0.heap[w.heap.size + 1]? = some (.cells #[.slice (some ⟨w.heap.size, 0, none⟩) 2 2] 59 (0, 0)) := by
    have := blk_new (w.alloc (.cells #[.int .i64 100, .int .i64 200] 3)) (.cells #[.slice (some ⟨w.heap.size, 0, none⟩) 2 2] 59)
    rw [World.size_alloc] at this
    rw [hW0]; exact blk_alloc (blk_alloc this _) _
  have k2 : W0.heap[w.heap.size + 1 + 1]? = some (.cells #[.int .i64 4, .int .i64 0] 3 (0, 0)) := by
    have := blk_new ((w.alloc (.cells #[.int .i64 100, .int .i64 200] 3)).alloc (.cells #[.slice (some ⟨w.heap.size, 0, none⟩) 2 2] 59)) (.cells #[.int .i64 4, .int .i64 0] 3)
    rw [World.size_alloc, World.size_alloc] at this
    rw [hW0]; exact blk_alloc this _
  have k3 : W0.heap[w.heap.size + 1 + 1 + 1]? = some (.cells #[.slice (some ⟨w.heap.size + 1, 0, none⟩) 1 1, .slice (some ⟨w.heap.size + 1 + 1, 0, none⟩) 2 2] 61 (0, 0)) := by
    have := blk_new (((w.alloc (.cells #[.int .i64 100, .int .i64 200] 3)).alloc (.cells #[.slice (some ⟨w.heap.size, 0, none⟩) 2 2] 59)).alloc (.cells #[.int .i64 4, .int .i64 0] 3)) (.cells #[.slice (some ⟨w.heap.size + 1, 0, none⟩) 1 1, .slice (some ⟨w.heap.size + 1 + 1, 0, none⟩) 2 2] 61)
    rw [World.size_alloc, World.size_alloc, World.size_alloc] at this
    rw [hW0]; exact this
  have hg0 : Kd.C (Kd.int .i64) W0 (some ⟨w.heap.size + 1 + 1, 0, none⟩) 2 [4, 0] := C_ints_blk (xs := [4, 0]) k2 (by decide)
  have hi0 : Kd.C (Kd.int .i64) W0 (some ⟨w.heap.size, 0, none⟩) 2 [100, 200] := C_ints_blk (xs := [100, 200]) k0 (by decide)
  have hb0 : Kd.C (Kd.slice 3 (Kd.int .i64)) W0 (some ⟨w.heap.size + 1, 0, none⟩) 1 [[100, 200]] := by
    refine C_rows_blk (rows := [[100, 200]]) (vs := [.slice (some ⟨w.heap.size, 0, none⟩) 2 2]) k1 rfl (by decide) fun j x hj => ?_
    match j, hj with
    | 0, hj =>
      obtain rfl := Option.some.inj hj
      exact ⟨_, 2, rfl, Nat.le_refl _, hi0⟩
    | j + 1, hj => simp at hj
  clear k0 k1 k2 hi0
  have HG := Aside0.mk hg0
  have HB := Aside0.mk hb0
  have HW := Aside0.mk hW0
  clear hg0 hb0 hW0
  go_enter Try.func29, Try.ntmps29
  go_wp2_with fail
  rw [← HW.out]
  refine (gain_Sound.calls _ 1 [[100, 200]] _ 2 [4, 0] _ W0 HB.out (Nat.le_refl _) HG.out (Nat.le_refl _) awake25_sound).mono ?_
  rintro e w1 ⟨v, rfl, hS, hb1⟩
  obtain ⟨A1, c1, rfl, hc1, hC1⟩ := Kd.R_reads (Kd.S_R hS)
  have hB1 := below_step hB0 hb1
  obtain ⟨ad, cs, hA, hcl, ⟨a, cx, hcs, hle, hCa⟩, hcell⟩ := Kd.C_get hC1 [] 0 (by decide) (by decide)
  subst hcs hA
  have hq : w1.cell? ad = some _ := hcell 0 _ rfl
  have k31 := blk_below k3 hb1
  have kc0 : w1.cell? ⟨w.heap.size + 1 + 1 + 1, 0, none⟩ = some (.slice (some ⟨w.heap.size + 1, 0, none⟩) 1 1) := (blk_cell k31 0).trans rfl
  have kc1 : w1.cell? ⟨w.heap.size + 1 + 1 + 1, 1, none⟩ = some (.slice (some ⟨w.heap.size + 1 + 1, 0, none⟩) 2 2) := (blk_cell k31 1).trans rfl
  go_wp2_with fail
  refine (gain_Fade.calls 20 0 4 5 1 1 w1 awake25_fade).mono ?_
  rintro e w2 ⟨rfl, hb2⟩
  have hB2 := below_step hB1 hb2
  have hb02 := below_step hb1 hb2
  have k32 := blk_below k31 hb2
  have kc02 : w2.cell? ⟨w.heap.size + 1 + 1 + 1, 0, none⟩ = some (.slice (some ⟨w.heap.size + 1, 0, none⟩) 1 1) := (blk_cell k32 0).trans rfl
  have kc12 : w2.cell? ⟨w.heap.size + 1 + 1 + 1, 1, none⟩ = some (.slice (some ⟨w.heap.size + 1 + 1, 0, none⟩) 2 2) := (blk_cell k32 1).trans rfl
  go_wp2_with fail
  refine (gain_Right.calls _ 1 [[100, 200]] _ 2 [4, 0] true w2 (Kd.C_below HB.out hb02) (Nat.le_refl _) (Kd.C_below HG.out hb02) (Nat.le_refl _) (by decide)).mono ?_
  rintro e w3 ⟨rfl, hb3⟩
  have hB3 := below_step hB2 hb3
  have hb13 := below_step hb2 hb3
  have hb03 := below_step hb02 hb3
  have k33 := blk_below k32 hb3
  have kc03 : w3.cell? ⟨w.heap.size + 1 + 1 + 1, 0, none⟩ = some (.slice (some ⟨w.heap.size + 1, 0, none⟩) 1 1) := (blk_cell k33 0).trans rfl
  have hq3 := (hb13.cell (p := ad) (World.block_lt_of_cell? _ _ hq)).trans hq
  have hCa3 := Kd.C_below hCa hb13
  have hC13 := Kd.C_below hC1 hb13
  go_wp2_with fail
  have hbl := below_alloc (Below.refl w3.heap.size w3) (.cells #[.int .i64 200, .int .i64 200] 3)
  refine (splicerref01_Same.calls 5 a cx [200, 200] _ 2 [200, 200] true _ (Kd.C_below hCa3 hbl) hle (C_ints_blk (xs := [200, 200]) (blk_new w3 _) (by decide)) (Nat.le_refl _) awake25_same).mono ?_
  rintro e w4 ⟨rfl, hd4⟩
  have hb4 := below_step hbl hd4.below
  have hB4 := below_step hB3 hb4
  have hb04 := below_step hb03 hb4
  have k34 := blk_below k33 hb4
  have kc04 : w4.cell? ⟨w.heap.size + 1 + 1 + 1, 0, none⟩ = some (.slice (some ⟨w.heap.size + 1, 0, none⟩) 1 1) := (blk_cell k34 0).trans rfl
  have hC14 := Kd.C_below hC13 hb4
  go_wp2_with fail
  refine (gain_Worst.calls (some ad) c1 [[200, 200]] _ 1 [[100, 200]] 100 w4 hC14 hc1 (Kd.C_below HB.out hb04) (Nat.le_refl _) awake25_worst).mono ?_
  rintro e w5 ⟨rfl, hb5⟩
  have hB5 := below_step hB4 hb5
  have hb05 := below_step hb04 hb5
  have k35 := blk_below k34 hb5
  have kc05 : w5.cell? ⟨w.heap.size + 1 + 1 + 1, 0, none⟩ = some (.slice (some ⟨w.heap.size + 1, 0, none⟩) 1 1) := (blk_cell k35 0).trans rfl
  go_wp2_with fail
  refine (gain_Worst.calls none 0 [] _ 1 [[100, 200]] (-1) w5 (Kd.C_nil _ _) (Nat.le_refl _) (Kd.C_below HB.out hb05) (Nat.le_refl _) awake25_none).mono ?_
  rintro e w6 ⟨rfl, hb6⟩
  have hB6 := below_step hB5 hb6
  go_wp2
  go_ret
  exact ⟨rfl, hB6⟩
def splicerlaw25_awake.f : Option Bool := some true
theorem splicerlaw25_awake.calls (r : Bool) (w : World) (h : splicerlaw25_awake.f = some r) :
    Calls Try.prog 29 #[] w fun e w' => e = .returned (.bool r) ∧ Below w.heap.size w w' := by
  obtain rfl := Option.some.inj h
  exact awake25_run w
end

end Go.Proofs.Ytaoodgijapiipaa.S
