import Derived.Test.YtaoodgijapiipaaGNumLem
import Derived.Test.YtaoodgijapiipaaGRowsLem
import Derived.Test.YtaoodgijapiipaaGx8
/-! What the reference of gain tells of tracks and lists: plain lists. -/
set_option linter.unusedVariables false
namespace Go.Proofs.Ytaoodgijapiipaa.GainLem
open Go.RowKit Go.Proofs.Ytaoodgijapiipaa.S Go.Proofs.YtaoodgijapiipaaW.PrintWords Go.Proofs.YtaoodgijapiipaaW.PrintLast Go.Proofs.YtaoodgijapiipaaW.PrintMore Go.Proofs.Ytaoodgijapiipaa.NumLem Go.Proofs.Ytaoodgijapiipaa.RowsLem
/-- Few channels, of few samples. -/
def few (l : List (List Int)) (g : List Int) : Bool := l.all (fun x => decide (x.length ≤ 100)) && decide (l.length ≤ 3) && decide (g.length ≤ 100)
theorem few_l (l : List (List Int)) (g : List Int) : ∀ d i : Nat, (l.length - i = d ∨ i = 4) → i ≤ 4 → i ≤ l.length → Ev (fun k => splicerref25_Few.l0 k 100 (i : Int) l g) ((l.drop i).all (fun x => decide (x.length ≤ 100)) && decide (l.length ≤ 3) && decide (g.length ≤ 100)) := by
  intro d
  induction d with
  | zero =>
    intro i hi h4 hle
    refine Ev.step (f := fun k => splicerref25_Few.j1 k 100 (i : Int) false l g) (fun k => ?_) ?_
    · simp only [splicerref25_Few.l0]
      by_cases h : (i : Int) < (l.length : Int)
      · rw [if_pos h, decide_eq_false (by omega)]
      · rw [if_neg h]
    · refine Ev.step (f := fun k => if (l.length : Int) ≤ 3 then some (decide ((g.length : Int) ≤ 100)) else some false) (fun k => ?_) ?_
      · simp only [splicerref25_Few.j1]; rw [if_neg (by decide)]
      · by_cases hl : (l.length : Int) ≤ 3
        · have : l.drop i = [] := List.drop_eq_nil_of_le (by omega)
          rw [this, decide_eq_true (show l.length ≤ 3 by omega)]
          refine ev_pos hl ?_
          have e : decide ((g.length : Int) ≤ 100) = decide (g.length ≤ 100) := decide_eq_decide.2 (by omega)
          rw [e]; exact Ev.now _
        · rw [decide_eq_false (show ¬ l.length ≤ 3 by omega), Bool.and_false, Bool.false_and]
          exact ev_neg hl (Ev.now _)
  | succ d ih =>
    intro i hi h4 hle
    by_cases hi4 : i = 4
    · subst hi4
      refine Ev.step (f := fun k => splicerref25_Few.j1 k 100 ((4 : Nat) : Int) false l g) (fun k => ?_) ?_
      · simp only [splicerref25_Few.l0]
        by_cases h : ((4 : Nat) : Int) < (l.length : Int)
        · rw [if_pos h, decide_eq_false (by omega)]
        · rw [if_neg h]
      · refine Ev.step (f := fun k => some false) (fun k => ?_) ?_
        · simp only [splicerref25_Few.j1]; rw [if_neg (by decide), if_neg (by omega)]
        · rw [decide_eq_false (show ¬ l.length ≤ 3 by omega), Bool.and_false, Bool.false_and]
          exact Ev.now _
    · have hlt : i < l.length := by omega
      refine Ev.step (f := fun k => splicerref25_Few.j1 k 100 (i : Int) true l g) (fun k => ?_) ?_
      · simp only [splicerref25_Few.l0]; rw [if_pos (by omega), decide_eq_true (by omega)]
      · refine Ev.step (f := fun k => if (l[i].length : Int) > 100 then some false else splicerref25_Few.l0 k 100 ((i + 1 : Nat) : Int) l g) (fun k => ?_) ?_
        · simp only [splicerref25_Few.j1]; rw [if_pos trivial, if_pos (by omega), if_pos (by omega), rdL_at l i hlt, wS i (by omega)]
        · rw [List.drop_eq_getElem_cons hlt, List.all_cons]
          refine ev_if (fun h => ?_) (fun h => ?_)
          · rw [decide_eq_false (show ¬ l[i].length ≤ 100 by omega), Bool.false_and, Bool.false_and, Bool.false_and]
            exact Ev.now _
          · rw [decide_eq_true (show l[i].length ≤ 100 by omega), Bool.true_and]
            exact ih (i + 1) (by omega) (by omega) (by omega)
theorem fewE (l : List (List Int)) (g : List Int) : Ev (fun k => splicerref25_Few.f k l g 100) (few l g) := by
  have := few_l l g l.length 0 (.inl (by omega)) (by omega) (by omega)
  rw [List.drop_zero] at this
  exact this
theorem in_any (l : List Int) (lo hi : Int) : inB lo hi l = !(l.any fun x => !(decide (lo ≤ x) && decide (x ≤ hi))) := by
  unfold inB
  rw [List.all_eq_not_any_not]
theorem right_l (b : List (List Int)) (g : List Int) (hb : b.length < 1000000000) (hr : ∀ x, x ∈ b → x.length < 1000000000) : ∀ d i : Nat, i + d = b.length → Ev (fun k => splicerref25_Right.l0 k (i : Int) b g) (!((b.drop i).any (gainBad g.length))) := by
  intro d
  induction d with
  | zero =>
    intro i hi
    refine Ev.step (f := fun _ => some true) (fun k => ?_) ?_
    · simp only [splicerref25_Right.l0]; rw [if_neg (by omega)]
    · rw [List.drop_eq_nil_of_le (by omega)]; exact Ev.now true
  | succ d ih =>
    intro i hi
    have ha : i < b.length := by omega
    refine Ev.step (f := fun k => if (b[i].length : Int) = (g.length : Int) then (splicerref01_Within.f k b[i] (-32768) 32767).bind fun t => (if t = true then splicerref25_Right.l0 k ((i + 1 : Nat) : Int) b g else some false) else some false) (fun k => ?_) ?_
    · simp only [splicerref25_Right.l0]; rw [if_pos (by omega), if_pos (by omega), rdL_at b i ha, wS i (by omega)]
    · rw [List.drop_eq_getElem_cons ha, List.any_cons]
      refine ev_if (fun h => ?_) (fun h => ?_)
      · refine Ev.bind (withinE _ _ _ (hr _ (List.getElem_mem ha))) ?_
        rw [in_any]
        unfold gainBad
        rw [decide_eq_false (show ¬ b[i].length ≠ g.length by omega), Bool.false_or]
        cases hq : (b[i].any fun x => !(decide (-32768 ≤ x) && decide (x ≤ 32767))) with
        | true => rw [Bool.true_or]; exact ev_neg (by decide) (Ev.now false)
        | false => rw [Bool.false_or]; exact ev_pos (by decide) (ih (i + 1) (by omega))
      · unfold gainBad
        rw [decide_eq_true (show b[i].length ≠ g.length by omega), Bool.true_or, Bool.true_or]
        exact Ev.now false
theorem rightE (b : List (List Int)) (g : List Int) (hb : b.length < 1000000000) (hg : g.length < 1000000000) (hr : ∀ x, x ∈ b → x.length < 1000000000) : Ev (fun k => splicerref25_Right.f k b g) (gainR b g) := by
  unfold splicerref25_Right.f gainR
  have hw := withinE g (-64) 32 hg
  rw [in_any] at hw
  have hl := right_l b g hb hr b.length 0 (by omega)
  rw [List.drop_zero] at hl
  have hj : ∀ q : Bool, Ev (fun k => splicerref25_Right.j0 k (!q) b g) (q && !(b.any (gainBad g.length))) := by
    intro q
    cases q with
    | true =>
      refine Ev.step (f := fun k => splicerref25_Right.l0 k 0 b g) (fun k => ?_) hl
      simp only [splicerref25_Right.j0]; rw [if_neg (by decide)]
    | false =>
      refine Ev.step (f := fun _ => some false) (fun k => ?_) (Ev.now false)
      simp only [splicerref25_Right.j0]; rw [if_pos (by decide)]
  refine ev_if (fun h => ?_) (fun h => ?_)
  · rw [decide_eq_true (show b.length = 1 ∨ b.length = 2 by omega), Bool.true_and]
    exact Ev.bind hw (hj _)
  · refine ev_if (fun h' => ?_) (fun h' => ?_)
    · rw [decide_eq_true (show b.length = 1 ∨ b.length = 2 by omega), Bool.true_and]
      exact Ev.bind hw (hj _)
    · rw [decide_eq_false (show ¬ (b.length = 1 ∨ b.length = 2) by omega), Bool.false_and, Bool.false_and]
      exact hj false
/-! ### how a track sounds -/
theorem stepE (f : Int) : splicerref08_step.f f = some (level_quarter f) := by
  unfold splicerref08_step.f level_quarter; repeat' split
  all_goals rfl
theorem shr_same : @GL.shrS = @NumLem.shrS := rfl
theorem rgainE (g : Int) (k : Nat) (hk : 4 ≤ k) : splicerref08_Gain.f k g = some (GL.gainS g) := by
  have hk1 : k = (k - 1) + 1 := by omega
  unfold splicerref08_Gain.f GL.gainS
  rw [hk1]
  simp only [splicerref08_Gain.j0]
  by_cases h1 : g < -64
  · simp [h1]
  by_cases h2 : g > 32
  · simp [h1, h2]
  simp only [if_neg h1, decide_eq_false h2, if_neg (show ¬ (g < -64 ∨ 32 < g) by omega), if_neg (show ¬ (false = true) by decide)]
  have q := GL.quarter_b (g % 4)
  rw [(modE g 4 (by omega) (by omega) (by omega)).2, if_neg (by decide)]
  simp only [Option.bind_some, stepE]
  rw [w64 (x := 8 - g / 4) (by omega) (by omega), (shrE _ _ (by omega) (by omega) (by omega) (by omega) (k - 1) (by omega)).2]; rfl
theorem rapplyE (x g : Int) (k : Nat) (hk : 6 ≤ k) : splicerref08_Apply.f k x g = some (GL.applyS x g) := by
  have hk1 : k = (k - 1) + 1 := by omega
  unfold splicerref08_Apply.f GL.applyS
  rw [hk1]
  simp only [splicerref08_Apply.j0]
  have wr := GL.w64_range (x * GL.gainS g)
  have s := (shrE (wrap64 (x * GL.gainS g)) 16 wr.1 wr.2 (by decide) (by decide) (k - 1) (by omega)).2
  by_cases h1 : x < -1073741824
  · simp [h1]
  by_cases h2 : x > 1073741824
  · simp [h1, h2]
  simp only [if_neg h1, decide_eq_false h2, if_neg (show ¬ (x < -1073741824 ∨ 1073741824 < x) by omega), if_neg (show ¬ (false = true) by decide), rgainE g (k - 1) (by omega), Option.bind_some, s, (satE _).2]
  rfl
theorem applyEv (x g : Int) : Ev (fun k => splicerref08_Apply.f k x g) (GL.applyS x g) := ⟨6, fun k hk => rapplyE x g k hk⟩
/-- The first i of a row, made louder. -/
def row (x g : List Int) (i : Nat) : List Int := (List.range i).map fun j => GL.applyS (x.getD j 0) (g.getD j 0)
theorem row_succ (x g : List Int) (i : Nat) : row x g (i + 1) = row x g i ++ [GL.applyS (x.getD i 0) (g.getD i 0)] := by simp [row, List.range_succ]
theorem rowS_is (x g : List Int) (m : Nat) : rowS (fun j => x.getD j 0) (fun j => g.getD j 0) m = row x g m := by
  unfold rowS row
  apply List.ext_getElem
  · simp
  · intro i h1 h2
    simp
theorem getD_at (l : List Int) (i : Nat) (h : i < l.length) : l.getD i 0 = l[i] := by rw [List.getD_eq_getElem?_getD, List.getElem?_eq_getElem h]; rfl
theorem sound_in (b : List (List Int)) (g : List Int) (out : List (List Int)) (c : Nat) (hc : c < b.length) (hlen : b[c].length = g.length) (hg : g.length ≤ 1000000) (r : List (List Int)) (hout : out.length < 5864062014805)
    (hr : Ev (fun k => splicerref25_Sound.l0 k (out ++ [row b[c] g g.length]) (wrap64 ((c : Int) + 1)) b g) r) : ∀ d i : Nat, i + d = g.length → Ev (fun k => splicerref25_Sound.l1 k out (c : Int) (row b[c] g i) (i : Int) b g) r := by
  intro d
  induction d with
  | zero =>
    intro i hi
    obtain rfl : i = g.length := by omega
    refine Ev.step (f := fun k => splicerref25_Sound.l0 k (out ++ [row b[c] g g.length]) (wrap64 ((c : Int) + 1)) b g) (fun k => ?_) hr
    simp only [splicerref25_Sound.l1]; rw [if_neg (by omega), if_pos hout]
  | succ d ih =>
    intro i hi
    have hlt : i < g.length := by omega
    have hx : i < b[c].length := by omega
    refine Ev.step (f := fun k => (splicerref08_Apply.f k b[c][i] g[i]).bind fun t => splicerref25_Sound.l1 k out (c : Int) (row b[c] g i ++ [t]) ((i + 1 : Nat) : Int) b g) (fun k => ?_) ?_
    · simp only [splicerref25_Sound.l1]
      have hrl : (row b[c] g i).length < 17592186044416 := by simp [row]; omega
      rw [if_pos (by omega), if_pos (by omega), if_pos (by omega), if_pos (by omega), rdL_at b c hc, if_pos (by omega), rd_at _ i hx, rd_at _ i hlt, wS i (by omega)]
      simp only [if_pos hrl]
    · refine Ev.bind (applyEv _ _) ?_
      have := ih (i + 1) (by omega)
      rw [row_succ, getD_at _ _ hx, getD_at _ _ hlt] at this
      exact this
theorem sound_l (b : List (List Int)) (g : List Int) (hb : b.length < 1000000) (hlen : ∀ x, x ∈ b → x.length = g.length) (hg : g.length ≤ 1000000) : ∀ d c : Nat, c + d = b.length → ∀ out : List (List Int), out.length = c → Ev (fun k => splicerref25_Sound.l0 k out (c : Int) b g) (out ++ (b.drop c).map fun x => row x g g.length) := by
  intro d
  induction d with
  | zero =>
    intro c hc out ho
    refine Ev.step (f := fun _ => some out) (fun k => ?_) ?_
    · simp only [splicerref25_Sound.l0]; rw [if_neg (by omega)]
    · rw [List.drop_eq_nil_of_le (by omega)]
      simpa using Ev.now out
  | succ d ih =>
    intro c hc out ho
    have hlt : c < b.length := by omega
    refine Ev.step (f := fun k => splicerref25_Sound.l1 k out (c : Int) ([] : List Int) 0 b g) (fun k => ?_) ?_
    · simp only [splicerref25_Sound.l0]; rw [if_pos (by omega)]
    · rw [List.drop_eq_getElem_cons hlt, List.map_cons]
      have h1 := ih (c + 1) (by omega) (out ++ [row b[c] g g.length]) (by simp [ho])
      rw [List.append_assoc, List.singleton_append, ← wS c (by omega)] at h1
      exact sound_in b g out c hlt (hlen _ (List.getElem_mem hlt)) hg _ (by omega) h1 g.length 0 (by omega)
theorem soundE (b : List (List Int)) (g : List Int) (hg : g.length ≤ 1000000) (hb : b.length < 1000000) (hr : ∀ x, x ∈ b → x.length < 1000000000) : Ev (fun k => splicerref25_Sound.f k b g) (soundL b g) := by
  unfold splicerref25_Sound.f soundL
  refine Ev.bind (rightE b g (by omega) (by omega) hr) ?_
  cases h : gainR b g with
  | false => exact ev_neg (by decide) (Ev.now _)
  | true =>
    refine ev_pos rfl ?_
    have hlen : ∀ x, x ∈ b → x.length = g.length := by
      intro x hx
      unfold gainR at h
      simp only [Bool.and_eq_true, decide_eq_true_eq, Bool.not_eq_true', List.any_eq_false] at h
      have := h.2 x hx
      unfold gainBad at this
      simp only [Bool.or_eq_true, decide_eq_true_eq, not_or, Decidable.not_not] at this
      exact this.1
    have h1 := sound_l b g hb hlen hg b.length 0 (by omega) [] rfl
    rw [List.drop_zero, List.nil_append] at h1
    have e : (b.map fun x => rowS (fun j => x.getD j 0) (fun j => g.getD j 0) g.length) = b.map fun x => row x g g.length := List.map_congr_left fun x _ => rowS_is x g g.length
    rw [if_pos rfl, e]
    exact h1
/-! ### how far lists are from one another -/
theorem near_in (l : List Int) : inB (-1048576) 1048576 l = nearB l := by
  rw [in_any]
  unfold nearB
  congr 2
  funext x
  rw [Bool.eq_iff_iff]
  simp only [Bool.not_eq_true', Bool.and_eq_false_iff, decide_eq_false_iff_not, Bool.or_eq_true, decide_eq_true_eq]
  omega
def fold (x y : List Int) (n : Int) (l : List Nat) : Int := l.foldl (fun n j => stepV (fun j => x.getD j 0) (fun j => y.getD j 0) n j) n
theorem rowV_is (x y : List Int) (n : Int) (m : Nat) : rowV x y n m = fold x y n (List.range m) := by
  unfold rowV fold
  have e : List.range m = (List.finRange m).map (fun j : Fin m => (j : Nat)) := by
    apply List.ext_getElem
    · simp
    · intro i h1 h2; simp
  rw [e, List.foldl_map]
theorem range_drop (m i : Nat) (h : i < m) : (List.range m).drop i = i :: (List.range m).drop (i + 1) := by
  rw [List.drop_eq_getElem_cons (by simpa using h)]; simp
theorem worst_in (a b : List (List Int)) (c : Nat) (hc : c < a.length) (hc' : c < b.length) (hlen : a[c].length = b[c].length) (hm : a[c].length < 1000000) (na : nearB a[c] = true) (nb : nearB b[c] = true) (r : Int) :
    ∀ d i : Nat, i + d = a[c].length → ∀ n : Int, Ev (fun k => splicerref25_Worst.l0 k a b (fold a[c] b[c] n ((List.range a[c].length).drop i)) (wrap64 ((c : Int) + 1))) r → Ev (fun k => splicerref25_Worst.l1 k a b n (c : Int) (i : Int)) r := by
  intro d
  induction d with
  | zero =>
    intro i hi n hr
    obtain rfl : i = a[c].length := by omega
    rw [List.drop_eq_nil_of_le (by simp)] at hr
    refine Ev.step (f := fun k => splicerref25_Worst.l0 k a b n (wrap64 ((c : Int) + 1))) (fun k => ?_) hr
    simp only [splicerref25_Worst.l1]; rw [if_pos (by omega), if_pos (by omega), rdL_at a c hc, if_neg (by omega)]
  | succ d ih =>
    intro i hi n hr
    have hx : i < a[c].length := by omega
    have hy : i < b[c].length := by omega
    have ba := near_bd na i
    have bb := near_bd nb i
    rw [getD_at _ _ hx] at ba
    rw [getD_at _ _ hy] at bb
    rw [range_drop _ _ hx] at hr
    have ha : splicerref01_Abs.f (wrap64 (a[c][i] - b[c][i])) = some (iabs (a[c][i] - b[c][i])) := by
      rw [w64 (by omega) (by omega), (absE _ 5 (by decide)).2]
      unfold absS iabs
      rw [if_neg (by omega)]
    refine Ev.step (f := fun k => splicerref25_Worst.l1 k a b (mx n (iabs (a[c][i] - b[c][i]))) (c : Int) ((i + 1 : Nat) : Int)) (fun k => ?_) ?_
    · simp only [splicerref25_Worst.l1]; rw [if_pos (by omega), if_pos (by omega), rdL_at a c hc, if_pos (by omega), if_pos (by omega), if_pos (by omega), rdL_at b c hc', if_pos (by omega), rd_at _ i hx, rd_at _ i hy, ha, Option.bind_some, wS i (by omega)]
    · refine ih (i + 1) (by omega) _ ?_
      have e : fold a[c] b[c] n (i :: (List.range a[c].length).drop (i + 1)) = fold a[c] b[c] (mx n (iabs (a[c][i] - b[c][i]))) ((List.range a[c].length).drop (i + 1)) := by
        unfold fold
        rw [List.foldl_cons]
        congr 1
        unfold stepV mx
        show (if n < iabs (a[c].getD i 0 - b[c].getD i 0) then iabs (a[c].getD i 0 - b[c].getD i 0) else n) = _
        rw [getD_at _ _ hx, getD_at _ _ hy]
      rw [e] at hr
      exact hr
/-- From row c on. -/
def ansFrom (a b : List (List Int)) (n : Int) (l : List Nat) : Int := if l.all (fun i => rowGood (a.getD i []) (b.getD i [])) then l.foldl (fun n i => rowV (a.getD i []) (b.getD i []) n (a.getD i []).length) n else -1
theorem getL_at (l : List (List Int)) (i : Nat) (h : i < l.length) : l.getD i [] = l[i] := by rw [List.getD_eq_getElem?_getD, List.getElem?_eq_getElem h]; rfl
theorem worst_l (a b : List (List Int)) (hl : a.length = b.length) (hm : a.length < 1000000) (ha : ∀ x, x ∈ a → x.length < 1000000) (hb : ∀ x, x ∈ b → x.length < 1000000) : ∀ d c : Nat, c + d = a.length → ∀ n : Int, Ev (fun k => splicerref25_Worst.l0 k a b n (c : Int)) (ansFrom a b n ((List.range a.length).drop c)) := by
  intro d
  induction d with
  | zero =>
    intro c hc n
    refine Ev.step (f := fun _ => some n) (fun k => ?_) ?_
    · simp only [splicerref25_Worst.l0]; rw [if_neg (by omega)]
    · rw [List.drop_eq_nil_of_le (by simp; omega)]; exact Ev.now n
  | succ d ih =>
    intro c hc n
    have hca : c < a.length := by omega
    have hcb : c < b.length := by omega
    have hj : Ev (fun k => splicerref25_Worst.j1 k a b n (c : Int) true) (-1) := by
      refine Ev.step (f := fun _ => some (-1)) (fun k => ?_) (Ev.now _)
      simp only [splicerref25_Worst.j1]; rw [if_pos trivial]
    have hbad : rowGood a[c] b[c] = false → ansFrom a b n ((List.range a.length).drop c) = -1 := by
      intro h
      unfold ansFrom
      rw [range_drop _ _ hca, List.all_cons, getL_at a c hca, getL_at b c hcb, h, Bool.false_and, if_neg (by decide)]
    refine Ev.step (f := fun k => if (a[c].length : Int) = (b[c].length : Int) then (splicerref01_Within.f k a[c] (-1048576) 1048576).bind fun t => (if t = true then (splicerref01_Within.f k b[c] (-1048576) 1048576).bind fun t2 => splicerref25_Worst.j1 k a b n (c : Int) (!t2) else splicerref25_Worst.j1 k a b n (c : Int) true) else splicerref25_Worst.j1 k a b n (c : Int) true) (fun k => ?_) ?_
    · simp only [splicerref25_Worst.l0]; rw [if_pos (by omega), if_pos (by omega), if_pos (by omega), rdL_at a c hca, rdL_at b c hcb]
    · refine ev_if (fun h => ?_) (fun h => ?_)
      · have hw1 := withinE a[c] (-1048576) 1048576 (by have := ha _ (List.getElem_mem hca); omega)
        have hw2 := withinE b[c] (-1048576) 1048576 (by have := hb _ (List.getElem_mem hcb); omega)
        rw [near_in] at hw1 hw2
        refine Ev.bind hw1 ?_
        cases h1 : nearB a[c] with
        | false =>
          rw [hbad (by unfold rowGood; rw [h1]; simp)]
          exact ev_neg (by decide) hj
        | true =>
          refine ev_pos rfl ?_
          refine Ev.bind hw2 ?_
          cases h2 : nearB b[c] with
          | false =>
            rw [hbad (by unfold rowGood; rw [h2]; simp)]
            exact hj
          | true =>
            have hgood : rowGood a[c] b[c] = true := by unfold rowGood; rw [h1, h2, decide_eq_true (by omega)]; rfl
            refine Ev.step (f := fun k => splicerref25_Worst.l1 k a b n (c : Int) ((0 : Nat) : Int)) (fun k => ?_) ?_
            · simp only [splicerref25_Worst.j1]; rw [if_neg (by decide)]; rfl
            · refine worst_in a b c hca hcb (by omega) (ha _ (List.getElem_mem hca)) h1 h2 _ a[c].length 0 (by omega) n ?_
              have := ih (c + 1) (by omega) (fold a[c] b[c] n (List.range a[c].length))
              rw [← wS c (by omega)] at this
              rw [List.drop_zero]
              have e : ansFrom a b n ((List.range a.length).drop c) = ansFrom a b (fold a[c] b[c] n (List.range a[c].length)) ((List.range a.length).drop (c + 1)) := by
                unfold ansFrom
                rw [range_drop _ _ hca, List.all_cons, getL_at a c hca, getL_at b c hcb, hgood, Bool.true_and, List.foldl_cons, getL_at a c hca, getL_at b c hcb, rowV_is]
              rw [e]
              exact this
      · rw [hbad (by unfold rowGood; rw [decide_eq_false (by omega)]; rfl)]
        exact hj
theorem worstE (a b : List (List Int)) (hm : a.length < 1000000) (ha : ∀ x, x ∈ a → x.length < 1000000) (hb : ∀ x, x ∈ b → x.length < 1000000) : Ev (fun k => splicerref25_Worst.f k a b) (worstL a b) := by
  unfold splicerref25_Worst.f worstL
  by_cases h : a.length = b.length
  · rw [if_pos h]
    refine ev_pos (by omega) ?_
    have := worst_l a b h hm ha hb a.length 0 (by omega) 0
    rw [List.drop_zero] at this
    have e : worstAns a.length (fun i => a.getD i []) (fun i => b.getD i []) = ansFrom a b 0 (List.range a.length) := by
      unfold worstAns ansFrom
      have e : List.range a.length = (List.finRange a.length).map (fun j : Fin a.length => (j : Nat)) := by
        apply List.ext_getElem
        · simp
        · intro i h1 h2; simp
      rw [e, List.foldl_map, List.all_map]
      rfl
    rw [e]
    exact this
  · rw [if_neg h]
    exact ev_neg (by omega) (Ev.now _)
theorem few_b {l : List (List Int)} {g : List Int} (h : few l g = true) : l.length ≤ 3 ∧ g.length ≤ 100 ∧ ∀ x, x ∈ l → x.length ≤ 100 := by
  unfold few at h
  simp only [Bool.and_eq_true, decide_eq_true_eq, List.all_eq_true] at h
  exact ⟨h.1.2, h.2, h.1.1⟩
theorem sound_b {a : List (List Int)} {g : List Int} (h : few a g = true) : (soundL a g).length < 1000000 ∧ ∀ x, x ∈ soundL a g → x.length < 1000000 := by
  obtain ⟨h1, h2, h3⟩ := few_b h
  unfold soundL
  split
  · refine ⟨by simp; omega, ?_⟩
    intro x hx
    obtain ⟨y, _, rfl⟩ := List.mem_map.1 hx
    simp only [rowS, List.length_map, List.length_finRange]; omega
  · exact ⟨by simp, by simp⟩

end Go.Proofs.Ytaoodgijapiipaa.GainLem
