import Derived.Test.YtagffnckmlfcnaaMs2
import Derived.Test.YtagffnckmlfcnaaMs3
import Derived.Test.YtagffnckmlfcnaaMs6
import Derived.Test.YtagffnckmlfcnaaMs7
/-! What meter's reference tells: plain lists. -/
set_option linter.unusedVariables false
namespace Go.Proofs.Ytagffnckmlfcnaa.MetLem
open Go.RowKit Go.Proofs.Ytagffnckmlfcnaa.S Go.Proofs.YtagffnckmlfcnaaW.PrintWords Go.Proofs.YtagffnckmlfcnaaW.PrintLast Go.Proofs.YtagffnckmlfcnaaW.PrintMore
theorem ev_pos {α : Type} {c : Prop} [Decidable c] {g f : Nat → Option α} {r : α} (hc : c) (h1 : Ev g r) : Ev (fun k => if c then g k else f k) r := by simpa only [if_pos hc] using h1
theorem ev_neg {α : Type} {c : Prop} [Decidable c] {g f : Nat → Option α} {r : α} (hc : ¬ c) (h1 : Ev f r) : Ev (fun k => if c then g k else f k) r := by simpa only [if_neg hc] using h1
theorem wS (i : Nat) (h : i < 1000000000) : wrap64 ((i : Int) + 1) = ((i + 1 : Nat) : Int) := by unfold wrap64; omega
theorem rdN (x : List Int) (i : Nat) : rd x (i : Int) = x.getD i 0 := by unfold rd; rw [Int.toNat_natCast]
theorem rdL (l : List (List Int)) (i : Nat) : rd_L1 l (i : Int) = l.getD i [] := by unfold rd_L1; rw [Int.toNat_natCast]
theorem getD_mem {α : Type} (l : List α) (d : α) (i : Nat) (h : i < l.length) : l.getD i d ∈ l := by
  rw [List.getD_eq_getElem?_getD, List.getElem?_eq_getElem h]; exact List.getElem_mem h
theorem drop_cons {α : Type} (l : List α) (d : α) (i : Nat) (h : i < l.length) : l.drop i = l.getD i d :: l.drop (i + 1) := by
  rw [List.getD_eq_getElem?_getD, List.getElem?_eq_getElem h, Option.getD_some]; exact List.drop_eq_getElem_cons h
theorem few_l (l : List (List Int)) : ∀ d i : Nat, i + d = 4 → i ≤ l.length → (∀ j, j < i → (l.getD j []).length ≤ 200) → ∃ b, Ev (fun k => splicerref26_Few.l0 k l 200 (i : Int)) b ∧ (b = true → l.length ≤ 3 ∧ ∀ j, j < l.length → (l.getD j []).length ≤ 200) := by
  intro d
  induction d with
  | zero =>
    intro i hi hl hj
    refine ⟨decide ((l.length : Int) ≤ 3), ?_, fun h => by have := of_decide_eq_true h; omega⟩
    by_cases hlt : i < l.length
    · refine Ev.step (f := fun k => splicerref26_Few.j1 k l 200 (i : Int) false) (fun k => ?_) ?_
      · simp only [splicerref26_Few.l0]; rw [if_pos (by omega), decide_eq_false (by omega)]
      · refine Ev.step (f := fun _ => some (decide ((l.length : Int) ≤ 3))) (fun k => ?_) (Ev.now _)
        simp only [splicerref26_Few.j1]; rw [if_neg (by decide)]
    · refine Ev.step (f := fun k => splicerref26_Few.j1 k l 200 (i : Int) false) (fun k => ?_) ?_
      · simp only [splicerref26_Few.l0]; rw [if_neg (by omega)]
      · refine Ev.step (f := fun _ => some (decide ((l.length : Int) ≤ 3))) (fun k => ?_) (Ev.now _)
        simp only [splicerref26_Few.j1]; rw [if_neg (by decide)]
  | succ d ih =>
    intro i hi hl hj
    by_cases hlt : i < l.length
    · by_cases hbig : (l.getD i []).length ≤ 200
      · obtain ⟨b, h1, h2⟩ := ih (i + 1) (by omega) (by omega) (fun j hj' => by
          by_cases e : j = i
          · subst e; exact hbig
          · exact hj j (by omega))
        refine ⟨b, ?_, h2⟩
        refine Ev.step (f := fun k => splicerref26_Few.j1 k l 200 (i : Int) true) (fun k => ?_) ?_
        · simp only [splicerref26_Few.l0]; rw [if_pos (by omega), decide_eq_true (by omega)]
        · refine Ev.step (f := fun k => splicerref26_Few.l0 k l 200 ((i + 1 : Nat) : Int)) (fun k => ?_) h1
          simp only [splicerref26_Few.j1]; rw [if_pos trivial, if_pos (by omega), if_pos (by omega), rdL, if_neg (by omega), wS i (by omega)]
      · refine ⟨false, ?_, fun h => by cases h⟩
        refine Ev.step (f := fun k => splicerref26_Few.j1 k l 200 (i : Int) true) (fun k => ?_) ?_
        · simp only [splicerref26_Few.l0]; rw [if_pos (by omega), decide_eq_true (by omega)]
        · refine Ev.step (f := fun _ => some false) (fun k => ?_) (Ev.now _)
          simp only [splicerref26_Few.j1]; rw [if_pos trivial, if_pos (by omega), if_pos (by omega), rdL, if_pos (by omega)]
    · obtain rfl : i = l.length := by omega
      refine ⟨decide ((l.length : Int) ≤ 3), ?_, fun h => ⟨by have := of_decide_eq_true h; omega, hj⟩⟩
      refine Ev.step (f := fun k => splicerref26_Few.j1 k l 200 (l.length : Int) false) (fun k => ?_) ?_
      · simp only [splicerref26_Few.l0]; rw [if_neg (by omega)]
      · refine Ev.step (f := fun _ => some (decide ((l.length : Int) ≤ 3))) (fun k => ?_) (Ev.now _)
        simp only [splicerref26_Few.j1]; rw [if_neg (by decide)]
theorem fewE (l : List (List Int)) : ∃ b, Ev (fun k => splicerref26_Few.f k l 200) b ∧ (b = true → l.length ≤ 3 ∧ ∀ j, j < l.length → (l.getD j []).length ≤ 200) := few_l l 4 0 rfl (Nat.zero_le _) (fun j hj => absurd hj (Nat.not_lt_zero _))
theorem okS_iff (x : Int) : okS x = true ↔ -32768 ≤ x ∧ x ≤ 32767 := by unfold okS; simp
theorem within_l (x : List Int) (hx : x.length ≤ 1000) : ∀ d i : Nat, i + d = x.length → Ev (fun k => splicerref01_Within.l0 k x (-32768) 32767 (i : Int)) ((x.drop i).all okS) := by
  intro d
  induction d with
  | zero =>
    intro i hi
    rw [List.drop_eq_nil_of_le (by omega)]
    refine Ev.step (f := fun _ => some true) (fun k => ?_) (Ev.now _)
    simp only [splicerref01_Within.l0]; rw [if_neg (by omega)]
  | succ d ih =>
    intro i hi
    rw [drop_cons x 0 i (by omega), List.all_cons]
    by_cases c1 : x.getD i 0 < -32768
    · have : okS (x.getD i 0) = false := by rw [Bool.eq_false_iff, ne_eq, okS_iff]; omega
      rw [this, Bool.false_and]
      refine Ev.step (f := fun _ => some false) (fun k => ?_) (Ev.now _)
      simp only [splicerref01_Within.l0]; rw [if_pos (by omega), if_pos (by omega), rdN, if_pos c1]
    · by_cases c2 : x.getD i 0 > 32767
      · have : okS (x.getD i 0) = false := by rw [Bool.eq_false_iff, ne_eq, okS_iff]; omega
        rw [this, Bool.false_and]
        refine Ev.step (f := fun _ => some false) (fun k => ?_) (Ev.now _)
        simp only [splicerref01_Within.l0]; rw [if_pos (by omega), if_pos (by omega), rdN, if_neg c1, if_pos c2]
      · have : okS (x.getD i 0) = true := by rw [okS_iff]; omega
        rw [this, Bool.true_and]
        refine Ev.step (f := fun k => splicerref01_Within.l0 k x (-32768) 32767 ((i + 1 : Nat) : Int)) (fun k => ?_) (ih (i + 1) (by omega))
        simp only [splicerref01_Within.l0]; rw [if_pos (by omega), if_pos (by omega), rdN, if_neg c1, if_neg c2, wS i (by omega)]
theorem rowM_all (n : Nat) (x : List Int) : rowM n x = (decide (x.length = n) && x.all okS) := by
  unfold rowM
  congr 1
  rw [Bool.eq_iff_iff]
  simp [List.all_eq_true, List.any_eq_false]
theorem rright_l (l : List (List Int)) (h3 : l.length ≤ 3) (hx : ∀ j, j < l.length → (l.getD j []).length ≤ 200) : ∀ d i : Nat, i + d = l.length → Ev (fun k => splicerref47_Right.l0 k l (i : Int)) ((l.drop i).all (rowM (l.getD 0 []).length)) := by
  intro d
  induction d with
  | zero =>
    intro i hi
    rw [List.drop_eq_nil_of_le (by omega)]
    refine Ev.step (f := fun _ => some true) (fun k => ?_) (Ev.now _)
    simp only [splicerref47_Right.l0]; rw [if_neg (by omega), decide_eq_true (by omega)]
  | succ d ih =>
    intro i hi
    rw [drop_cons l [] i (by omega), List.all_cons, rowM_all]
    have e0 : rd_L1 l 0 = l.getD 0 [] := rdL l 0
    by_cases c1 : (l.getD i []).length = (l.getD 0 []).length
    · rw [decide_eq_true c1, Bool.true_and]
      have hw := within_l (l.getD i []) (by have := hx i (by omega); omega) _ 0 (Nat.zero_add _)
      rw [List.drop_zero] at hw
      cases hb : (l.getD i []).all okS with
      | true =>
        rw [hb] at hw
        rw [Bool.true_and]
        refine Ev.step (f := fun k => (splicerref01_Within.f k (l.getD i []) (-32768) 32767).bind fun t107 => (if t107 = true then (splicerref47_Right.l0 k l ((i + 1 : Nat) : Int)) else (some false))) (fun k => ?_) ?_
        · simp only [splicerref47_Right.l0]; rw [if_pos (by omega), if_pos (by omega), if_pos (by omega), rdL, e0, if_pos (by omega), wS i (by omega)]
        · exact Ev.bind hw (ev_pos rfl (ih (i + 1) (by omega)))
      | false =>
        rw [hb] at hw
        rw [Bool.false_and]
        refine Ev.step (f := fun k => (splicerref01_Within.f k (l.getD i []) (-32768) 32767).bind fun t107 => (if t107 = true then (splicerref47_Right.l0 k l ((i + 1 : Nat) : Int)) else (some false))) (fun k => ?_) ?_
        · simp only [splicerref47_Right.l0]; rw [if_pos (by omega), if_pos (by omega), if_pos (by omega), rdL, e0, if_pos (by omega), wS i (by omega)]
        · exact Ev.bind hw (ev_neg (by decide) (Ev.now _))
    · rw [decide_eq_false c1, Bool.false_and, Bool.false_and]
      refine Ev.step (f := fun _ => some false) (fun k => ?_) (Ev.now _)
      simp only [splicerref47_Right.l0]; rw [if_pos (by omega), if_pos (by omega), if_pos (by omega), rdL, e0, if_neg (by omega)]
theorem rrightE (l : List (List Int)) (h3 : l.length ≤ 3) (hx : ∀ j, j < l.length → (l.getD j []).length ≤ 200) : Ev (fun k => splicerref47_Right.f k l) (rightM l) := by
  have := rright_l l h3 hx l.length 0 (Nat.zero_add _)
  rw [List.drop_zero] at this
  unfold rightM
  rw [decide_eq_true h3, Bool.true_and]
  exact this
theorem rabs_f (x : Int) (h : -32768 ≤ x ∧ x ≤ 32767) : splicerref01_Abs.f x = some (iabs x) := by
  unfold splicerref01_Abs.f iabs
  rw [if_neg (by omega), if_neg (by omega)]
  congr 1
  have e : wrap64 (-x) = -x := by unfold wrap64; omega
  rw [e]; unfold mx
  split <;> split <;> omega
theorem quiet_l (l : List (List Int)) (floor : Int) (i : Nat) (h3 : l.length ≤ 3) (hx : ∀ x, x ∈ l → i < x.length ∧ ∀ y, y ∈ x → -32768 ≤ y ∧ y ≤ 32767) : ∀ d c : Nat, c + d = l.length → Ev (fun k => splicerref47_quiet.l0 k l (i : Int) floor (c : Int)) (!((l.drop c).any fun x => decide (floor < iabs (x.getD i 0)))) := by
  intro d
  induction d with
  | zero =>
    intro c hc
    rw [List.drop_eq_nil_of_le (by omega)]
    refine Ev.step (f := fun _ => some true) (fun k => ?_) (Ev.now _)
    simp only [splicerref47_quiet.l0]; rw [if_neg (by omega)]
  | succ d ih =>
    intro c hc
    have hm := hx _ (getD_mem l [] c (by omega))
    have hv := rabs_f ((l.getD c []).getD i 0) (hm.2 _ (getD_mem _ 0 i hm.1))
    rw [drop_cons l [] c (by omega), List.any_cons]
    by_cases hq : floor < iabs ((l.getD c []).getD i 0)
    · rw [decide_eq_true hq, Bool.true_or]
      refine Ev.step (f := fun _ => some false) (fun k => ?_) (Ev.now _)
      simp only [splicerref47_quiet.l0]
      rw [if_pos (by omega), if_pos (by omega), if_pos (by omega), rdL, if_pos (by omega), rdN, hv, Option.bind_some, if_pos hq]
    · rw [decide_eq_false hq, Bool.false_or]
      refine Ev.step (f := fun k => splicerref47_quiet.l0 k l (i : Int) floor ((c + 1 : Nat) : Int)) (fun k => ?_) (ih (c + 1) (by omega))
      simp only [splicerref47_quiet.l0]
      rw [if_pos (by omega), if_pos (by omega), if_pos (by omega), rdL, if_pos (by omega), rdN, hv, Option.bind_some, if_neg hq, wS c (by omega)]
theorem rsize_f (l : List (List Int)) : splicerref47_size.f l = some ((sizeM l : Nat) : Int) := by
  unfold splicerref47_size.f sizeM
  cases l with
  | nil => rw [if_pos (by rfl)]; rfl
  | cons x l => rw [if_neg (by rw [List.length_cons]; omega), if_pos (by rw [List.length_cons]; omega)]; rfl
def marksM (l : List (List Int)) (floor : Int) (n : Nat) : List Bool := (List.range n).map fun i => !(loudAt l floor i)
theorem marks_l (l : List (List Int)) (floor : Int) (h3 : l.length ≤ 3) (hn : sizeM l ≤ 200) (hf : 0 ≤ floor) (hx : ∀ x, x ∈ l → x.length = sizeM l ∧ ∀ y, y ∈ x → -32768 ≤ y ∧ y ≤ 32767) : ∀ d i : Nat, i + d = sizeM l → Ev (fun k => splicerref47_Marks.l0 k l floor (marksM l floor i) (i : Int)) (marksM l floor (sizeM l)) := by
  intro d
  induction d with
  | zero =>
    intro i hi
    obtain rfl : i = sizeM l := by omega
    refine Ev.step (f := fun _ => some (marksM l floor (sizeM l))) (fun k => ?_) (Ev.now _)
    simp only [splicerref47_Marks.l0]; rw [rsize_f, Option.bind_some, if_neg (by omega)]
  | succ d ih =>
    intro i hi
    have hq := quiet_l l floor i h3 (fun x hx' => ⟨by rw [(hx x hx').1]; omega, (hx x hx').2⟩) l.length 0 (Nat.zero_add _)
    rw [List.drop_zero] at hq
    have hs : marksM l floor (i + 1) = marksM l floor i ++ [!(loudAt l floor i)] := by unfold marksM; rw [List.range_succ, List.map_append]; rfl
    have hl : (marksM l floor i).length = i := by unfold marksM; simp
    refine Ev.step (f := fun k => (splicerref47_quiet.f k l (i : Int) floor).bind fun t183 => (if (marksM l floor i).length < 140737488355328 then (splicerref47_Marks.l0 k l floor (marksM l floor i ++ [t183]) ((i + 1 : Nat) : Int)) else (none))) (fun k => ?_) ?_
    · simp only [splicerref47_Marks.l0]; rw [rsize_f, Option.bind_some, if_pos (by omega), if_neg (by omega), wS i (by omega)]
    · refine Ev.bind hq (ev_pos (by omega) ?_)
      have := ih (i + 1) (by omega)
      rw [hs] at this
      exact this
theorem marksE (l : List (List Int)) (floor : Int) (h3 : l.length ≤ 3) (hn : sizeM l ≤ 200) (hf : 0 ≤ floor) (hx : ∀ x, x ∈ l → x.length = sizeM l ∧ ∀ y, y ∈ x → -32768 ≤ y ∧ y ≤ 32767) : Ev (fun k => splicerref47_Marks.f k l floor) (marksM l floor (sizeM l)) :=
  marks_l l floor h3 hn hf hx (sizeM l) 0 (Nat.zero_add _)
end Go.Proofs.Ytagffnckmlfcnaa.MetLem
