import Derived.Test.YtagffnckmlfcnaaMs4
import Derived.Test.YtagffnckmlfcnaaMs5
import Derived.Test.YtagffnckmlfcnaaSpanLem
/-! The loudest and the power: power is not above the peak. Trimming: what lies outside is quiet. -/
set_option linter.unusedVariables false
namespace Go.Proofs.Ytagffnckmlfcnaa.SpanNum
open Go.RowKit Go.Proofs.Ytagffnckmlfcnaa.S Go.Proofs.YtagffnckmlfcnaaW.PrintWords Go.Proofs.YtagffnckmlfcnaaW.PrintLast Go.Proofs.YtagffnckmlfcnaaW.PrintMore
open MetLem SpanLem
theorem sq_bit (r : Nat) (hr : r < 2147483648) (i : Nat) (hi : i < 31) : ∃ v : Nat, v < 2147483648 ∧ Go.bits .or .i64 (r : Int) (shl .i64 1 (wrap64 (30 - (i : Int)))) = (v : Int) := by
  have e1 : wrap64 (30 - (i : Int)) = ((30 - i : Nat) : Int) := by unfold wrap64; omega
  have h2 : (2:Nat) ^ (30 - i) ≤ 2 ^ 30 := Nat.pow_le_pow_right (by decide) (by omega)
  have e2 : shl .i64 1 ((30 - i : Nat) : Int) = ((2 ^ (30 - i) : Nat) : Int) := by
    unfold shl
    rw [Int.toNat_natCast, show min (30 - i) IntKind.i64.bits = 30 - i from Nat.min_eq_left (by show 30 - i ≤ 64; omega), Int.one_mul, i64_w]
    have e : ((2:Int) ^ (30 - i)) = ((2 ^ (30 - i) : Nat) : Int) := by simp
    rw [e]; generalize 2 ^ (30 - i) = b at *; unfold wrap64; omega
  rw [e1, e2]
  generalize 2 ^ (30 - i) = b at *
  have hv : r ||| b < 2 ^ 31 := Nat.or_lt_two_pow hr (by omega)
  refine ⟨r ||| b, hv, ?_⟩
  have ha' : r % 2 ^ IntKind.i64.bits = r := Nat.mod_eq_of_lt (show r < 18446744073709551616 by omega)
  have hb' : b % 2 ^ IntKind.i64.bits = b := Nat.mod_eq_of_lt (show b < 18446744073709551616 by omega)
  simp only [Go.bits, BitVec.ofInt_natCast, BitVec.toNat_or, BitVec.toNat_ofNat, ha', hb']
  rw [i64_w]; unfold wrap64; omega
theorem sqrt_l (n : Nat) (hn : n ≤ 1152921504606846976) : ∀ d i r : Nat, i + d = 31 → r < 2147483648 → r * r ≤ n → ∃ y : Nat, y * y ≤ n ∧ Ev (fun k => root_Sqrt.l0 k (n : Int) (r : Int) (i : Int)) (y : Int) := by
  intro d
  induction d with
  | zero =>
    intro i r hi hr hrn
    refine ⟨r, hrn, Ev.step (f := fun _ => some (r : Int)) (fun k => ?_) (Ev.now _)⟩
    simp only [root_Sqrt.l0]; rw [if_neg (by omega)]
  | succ d ih =>
    intro i r hi hr hrn
    obtain ⟨v, hv, e⟩ := sq_bit r hr i (by omega)
    have hvv : v * v < 4611686018427387904 := Nat.mul_lt_mul'' hv hv
    have ew : wrap64 ((v : Int) * (v : Int)) = ((v * v : Nat) : Int) := by rw [← Int.natCast_mul]; generalize v * v = q at *; unfold wrap64; omega
    have e0 : (0 : Int) ≤ wrap64 (30 - (i : Int)) := by unfold wrap64; omega
    by_cases c : v * v ≤ n
    · obtain ⟨y, hy, h⟩ := ih (i + 1) v (by omega) hv c
      refine ⟨y, hy, Ev.step (f := fun k => root_Sqrt.l0 k (n : Int) (v : Int) ((i + 1 : Nat) : Int)) (fun k => ?_) h⟩
      simp only [root_Sqrt.l0]; rw [if_pos (by omega), if_pos e0, e, ew, if_pos (by omega), wS i (by omega)]
    · obtain ⟨y, hy, h⟩ := ih (i + 1) r (by omega) hr hrn
      refine ⟨y, hy, Ev.step (f := fun k => root_Sqrt.l0 k (n : Int) (r : Int) ((i + 1 : Nat) : Int)) (fun k => ?_) h⟩
      simp only [root_Sqrt.l0]; rw [if_pos (by omega), if_pos e0, e, ew, if_neg (by omega), wS i (by omega)]
theorem sqrtE (n : Nat) (hn : n ≤ 1152921504606846976) : ∃ y : Nat, y * y ≤ n ∧ Ev (fun k => root_Sqrt.f k (n : Int)) (y : Int) := by
  obtain ⟨y, hy, h⟩ := sqrt_l n hn 31 0 0 rfl (by decide) (Nat.zero_le _)
  refine ⟨y, hy, Ev.congr (f := fun k => root_Sqrt.j0 k (n : Int) false) (fun k => ?_) (Ev.step (f := fun k => root_Sqrt.l0 k (n : Int) ((0 : Nat) : Int) ((0 : Nat) : Int)) (fun k => ?_) h)⟩
  · unfold root_Sqrt.f; rw [if_neg (by omega), decide_eq_false (by omega)]
  · simp only [root_Sqrt.j0]; rw [if_neg (by decide)]; rfl
def Q (s : Int × Int × Int) : Prop := s.2.1 ≤ s.2.2 * (s.1 * s.1) ∧ 0 ≤ s.1 ∧ 0 ≤ s.2.2
theorem iabs_sq (x : Int) : 0 ≤ iabs x ∧ x * x = iabs x * iabs x := by
  unfold iabs
  split
  · exact ⟨by omega, by rw [Int.neg_mul_neg]⟩
  · exact ⟨by omega, rfl⟩
theorem Q.step {s : Int × Int × Int} (h : Q s) (x : Int) : Q (hearS s x) := by
  obtain ⟨pk, sm, cn⟩ := s
  obtain ⟨h1, h2, h3⟩ := h
  obtain ⟨a0, a1⟩ := iabs_sq x
  unfold hearS
  simp only at *
  rw [a1]
  generalize iabs x = a at *
  have key : ∀ m : Int, pk ≤ m → a ≤ m → Q (m, sm + a * a, cn + 1) := by
    intro m m1 m2
    refine ⟨?_, by show 0 ≤ m; omega, by show 0 ≤ cn + 1; omega⟩
    have p1 : pk * pk ≤ m * m := Int.mul_le_mul m1 m1 h2 (by omega)
    have p2 : a * a ≤ m * m := Int.mul_le_mul m2 m2 a0 (by omega)
    have p3 : cn * (pk * pk) ≤ cn * (m * m) := Int.mul_le_mul_of_nonneg_left p1 h3
    show sm + a * a ≤ (cn + 1) * (m * m)
    rw [Int.add_mul, Int.one_mul]; omega
  split
  · exact key a (by omega) (Int.le_refl _)
  · exact key pk (Int.le_refl _) (by omega)
theorem Q.row : ∀ (x : List Int) s, Q s → Q (x.foldl hearS s) := by
  intro x
  induction x with
  | nil => intro s h; exact h
  | cons y x ih => intro s h; exact ih _ (h.step y)
theorem Q.rows : ∀ (l : List (List Int)) s, Q s → Q (l.foldl (fun s row => row.foldl hearS s) s) := by
  intro l
  induction l with
  | nil => intro s h; exact h
  | cons y l ih => intro s h; exact ih _ (Q.row y s h)
/-- Power is not above the peak. -/
theorem ofE (l : List (List Int)) (hr : rightM l = true) (hs : sizeM l ≤ 200) : ∃ pk pw : Int, Ev (fun k => meter_Of.f k l) (pk, pw) ∧ pw ≤ pk ∧ 0 ≤ pk := by
  have hQ : Q (rowsS l) := Q.rows l (0, 0, 0) ⟨by decide, by decide, by decide⟩
  have hG := GoodS.rows (sizeM l) l (right_rows hr) 0 (0, 0, 0) ⟨rfl, by decide, by decide, by decide, by decide⟩
  change GoodS _ (rowsS l) at hG
  rcases hR : rowsS l with ⟨pk, sm, cn⟩
  rw [hR] at hQ hG
  obtain ⟨q1, q2, q3⟩ := hQ
  obtain ⟨g1, g2, g3, g4, g5⟩ := hG
  simp only at *
  by_cases c : cn = 0
  · refine ⟨0, 0, Ev.congr (f := fun _ => some ((0 : Int), (0 : Int))) (fun k => ?_) (Ev.now _), Int.le_refl _, Int.le_refl _⟩
    unfold meter_Of.f; rw [if_pos (by omega), if_pos hr, hR, if_pos c]
  · obtain ⟨P, rfl⟩ := Int.eq_ofNat_of_zero_le q2
    have hn0 : 0 ≤ sm / cn := Int.ediv_nonneg g4 q3
    obtain ⟨n, hn⟩ := Int.eq_ofNat_of_zero_le hn0
    have hle : sm / cn ≤ (P : Int) * P := Int.ediv_le_of_le_mul (by omega) (by rw [Int.mul_comm]; exact q1)
    have hPP : P * P ≤ 32768 * 32768 := Nat.mul_le_mul (by omega) (by omega)
    have hnP : n ≤ P * P := by rw [hn, ← Int.natCast_mul] at hle; omega
    obtain ⟨y, hy, h⟩ := sqrtE n (by omega)
    refine ⟨(P : Int), (y : Int), Ev.congr (f := fun k => (root_Sqrt.f k (n : Int)).bind fun y => some ((P : Int), y)) (fun k => ?_) (Ev.bind h (Ev.now _)), ?_, q2⟩
    · unfold meter_Of.f; rw [if_pos (by omega), if_pos hr, hR, if_neg c]; simp only; rw [Int.tdiv_eq_ediv_of_nonneg g4, hn]
    · rcases Nat.lt_or_ge P y with hlt | hge
      · have := Nat.mul_self_lt_mul_self hlt; omega
      · omega
theorem firstA_ok (p : Nat → Bool) (n : Nat) : ∀ d a : Nat, a + d = n → (∀ j, j < a → p j = false) → (∀ j, j < firstA p n d a → p j = false) ∧ firstA p n d a ≤ n ∧ (firstA p n d a = n ∨ p (firstA p n d a) = true) := by
  intro d
  induction d with
  | zero => intro a ha h; exact ⟨h, by show a ≤ n; omega, .inl (by show a = n; omega)⟩
  | succ d ih =>
    intro a ha h
    unfold firstA
    by_cases c : p a = false
    · rw [if_pos c]
      exact ih (a + 1) (by omega) (fun j hj => by
        by_cases e : j = a
        · subst e; exact c
        · exact h j (by omega))
    · rw [if_neg c]
      exact ⟨h, by omega, .inr (by simpa using c)⟩
theorem lastB_ok (p : Nat → Bool) (n a : Nat) : ∀ b : Nat, a ≤ b → b ≤ n → (∀ j, b ≤ j → j < n → p j = false) → (∀ j, lastB p a b ≤ j → j < n → p j = false) ∧ a ≤ lastB p a b ∧ lastB p a b ≤ n ∧ (lastB p a b = a ∨ p (lastB p a b - 1) = true) := by
  intro b
  induction b with
  | zero => intro h1 h2 h; exact ⟨h, h1, Nat.zero_le _, .inl (by show 0 = a; omega)⟩
  | succ b ih =>
    intro h1 h2 h
    unfold lastB
    by_cases c : a < b + 1
    · rw [if_pos c]
      by_cases c2 : p b = false
      · rw [if_pos c2]
        exact ih (by omega) (by omega) (fun j hj hj2 => by
          by_cases e : j = b
          · subst e; exact c2
          · exact h j (by omega) hj2)
      · rw [if_neg c2]
        exact ⟨h, h1, h2, .inr (by simpa using c2)⟩
    · rw [if_neg c]
      exact ⟨h, h1, h2, .inl (by omega)⟩
/-- What is trimmed is quiet; what is left, if anything, is loud at both ends. -/
theorem trim_ok (p : Nat → Bool) (n : Nat) : (∀ j, j < n → j < (trimP p n).1 ∨ (trimP p n).2 ≤ j → p j = false) ∧ ((trimP p n).1 = (trimP p n).2 ∨ ((trimP p n).1 < (trimP p n).2 ∧ (trimP p n).2 ≤ n ∧ p (trimP p n).1 = true ∧ p ((trimP p n).2 - 1) = true)) := by
  obtain ⟨a1, a2, a3⟩ := firstA_ok p n n 0 (Nat.zero_add _) (fun j hj => absurd hj (Nat.not_lt_zero _))
  obtain ⟨b1, b2, b3, b4⟩ := lastB_ok p n (firstA p n n 0) n a2 (Nat.le_refl _) (fun j hj hj2 => by omega)
  unfold trimP
  by_cases c : firstA p n n 0 = lastB p (firstA p n n 0) n
  · rw [if_pos c]
    refine ⟨fun j hj _ => ?_, .inl rfl⟩
    rcases Nat.lt_or_ge j (firstA p n n 0) with h | h
    · exact a1 j h
    · exact b1 j (by omega) hj
  · rw [if_neg c]
    refine ⟨fun j hj h => ?_, .inr ⟨by show firstA p n n 0 < lastB p _ n; omega, b3, ?_, ?_⟩⟩
    · rcases h with h | h
      · exact a1 j h
      · exact b1 j h hj
    · exact a3.resolve_left (by omega)
    · exact b4.resolve_left (by omega)
end Go.Proofs.Ytagffnckmlfcnaa.SpanNum
