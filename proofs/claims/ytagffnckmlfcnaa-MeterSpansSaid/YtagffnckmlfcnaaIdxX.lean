import Derived.Test.YtagffnckmlfcnaaIdxW
/-! slices.ContainsFunc over rows of numbers, and over rows of rows. -/
set_option linter.unusedVariables false
set_option linter.unusedSimpArgs false
namespace Go.Proofs.Ytagffnckmlfcnaa.IdxX
open Go.RowKit Go.Proofs.YtagffnckmlfcnaaW.PrintWords Go.Proofs.YtagffnckmlfcnaaW.PrintLast Go.Proofs.YtagffnckmlfcnaaW.PrintMore
theorem any_range {α : Type} (l : List α) (z : α) (q : α → Bool) : (List.range l.length).any (fun i => q (l.getD i z)) = l.any q := by
  rw [Bool.eq_iff_iff, List.any_eq_true, List.any_eq_true]
  constructor
  · rintro ⟨i, hi, hq⟩
    have hlt : i < l.length := List.mem_range.1 hi
    rw [List.getD_eq_getElem?_getD, List.getElem?_eq_getElem hlt] at hq
    exact ⟨_, List.getElem_mem hlt, hq⟩
  · rintro ⟨x, hx, hq⟩
    obtain ⟨i, hlt, rfl⟩ := List.getElem_of_mem hx
    exact ⟨i, List.mem_range.2 hlt, by rw [List.getD_eq_getElem?_getD, List.getElem?_eq_getElem hlt]; exact hq⟩
/-- slices.ContainsFunc over a row of numbers. -/
theorem contains_ints (g : Nat) (lb : Array Value) (eg : ∀ args w, (callFunc g args).run Try.prog w = .ok (.enter g args) w) (A : Option Addr) (c : Nat) (l : List Int) (q : Int → Bool) (w : World) (hr : Kd.C (Kd.int .i64) w A l.length l)
    (hp : ∀ x, x ∈ l → ∀ W, Below w.heap.size w W → Calls Try.prog g (#[.int .i64 x] ++ lb) W fun e W' => e = .returned (.bool (q x)) ∧ Below W.heap.size W W') :
    Calls Try.prog 61 #[.slice A l.length c, .func (.func g) #[] lb] w fun e w' => e = .returned (.bool (l.any q)) ∧ Below w.heap.size w w' := by
  rw [← any_range l 0 q]
  refine IdxW.contains_i g lb eg A l.length c (fun i => .int .i64 (l.getD i 0)) (fun i => q (l.getD i 0)) w (Kd.C_max hr) ?_ ?_
  · intro hn
    obtain ⟨ad, rfl, _⟩ := Kd.at_int hr 0 (Int.le_refl _) (by omega)
    refine ⟨ad, rfl, fun i hi W hW => ?_⟩
    obtain ⟨a, ha, hc⟩ := Kd.at_int (Kd.C_below hr hW) (i : Int) (by omega) (by omega)
    cases ha
    exact hc
  · intro i hi W hW
    refine hp _ ?_ W hW
    rw [List.getD_eq_getElem?_getD, List.getElem?_eq_getElem hi]
    exact List.getElem_mem hi
/-- slices.ContainsFunc over a row of rows. -/
theorem contains_rows (g : Nat) (lb : Array Value) (eg : ∀ args w, (callFunc g args).run Try.prog w = .ok (.enter g args) w) (A : Option Addr) (c : Nat) (l : List (List Int)) (q : List Int → Bool) (w : World) (hr : Kd.C (Kd.slice 3 (Kd.int .i64)) w A l.length l)
    (hp : ∀ x, x ∈ l → ∀ W, Below w.heap.size w W → ∀ a cx, x.length ≤ cx → Kd.C (Kd.int .i64) W a x.length x → Calls Try.prog g (#[.slice a x.length cx] ++ lb) W fun e W' => e = .returned (.bool (q x)) ∧ Below W.heap.size W W') :
    Calls Try.prog 108 #[.slice A l.length c, .func (.func g) #[] lb] w fun e w' => e = .returned (.bool (l.any q)) ∧ Below w.heap.size w w' := by
  rw [← any_range l [] q]
  have each : ∀ i : Nat, ∃ v : Value, ∀ (hi : i < l.length), ∃ ad a cx, A = some ad ∧ v = .slice a (l.getD i []).length cx ∧ (l.getD i []).length ≤ cx ∧ Kd.C (Kd.int .i64) w a (l.getD i []).length (l.getD i []) ∧ w.cell? (ad.add i) = some v := by
    intro i
    by_cases hi : i < l.length
    · obtain ⟨ad, cs, hA, _, hK, hcell⟩ := Kd.C_get hr [] (i : Int) (by omega) (by omega)
      obtain ⟨a, cx, rfl, hle, hC⟩ := hK
      refine ⟨_, fun _ => ⟨ad, a, cx, hA, rfl, hle, hC, ?_⟩⟩
      have := hcell 0 _ rfl
      have e : (i : Int).toNat * (Kd.slice 3 (Kd.int .i64)).sz + 0 = i := by show (i : Int).toNat * 1 + 0 = i; omega
      rw [e] at this
      exact this
    · exact ⟨.nilFunc, fun h => absurd h hi⟩
  refine IdxW.contains_l g lb eg A l.length c (fun i => Classical.choose (each i)) (fun i => q (l.getD i [])) w (Kd.C_max hr) ?_ ?_
  · intro hn
    obtain ⟨ad, _, _, hA, _⟩ := Classical.choose_spec (each 0) hn
    refine ⟨ad, hA, fun i hi W hW => ?_⟩
    obtain ⟨ad', _, _, hA', _, _, _, hc⟩ := Classical.choose_spec (each i) hi
    rw [hA] at hA'
    cases hA'
    exact (hW.cell (p := ad.add i) (World.block_lt_of_cell? _ _ hc)).trans hc
  · intro i hi W hW
    obtain ⟨_, a, cx, _, hv, hle, hC, _⟩ := Classical.choose_spec (each i) hi
    show Calls _ _ (#[Classical.choose (each i)] ++ lb) _ _
    rw [hv]
    refine hp _ ?_ W hW a cx hle (Kd.C_below hC hW)
    rw [List.getD_eq_getElem?_getD, List.getElem?_eq_getElem hi]
    exact List.getElem_mem hi
/-- A row of rows, opened. -/
theorem rows_open {w : World} {A : Option Addr} {l : List (List Int)} (hr : Kd.C (Kd.slice 3 (Kd.int .i64)) w A l.length l) :
    ∃ (aa : Nat → Option Addr) (cc : Nat → Nat), ∀ i, i < l.length → ∃ ad, A = some ad ∧ (l.getD i []).length ≤ cc i ∧ Kd.C (Kd.int .i64) w (aa i) (l.getD i []).length (l.getD i []) ∧ w.cell? (ad.add i) = some (.slice (aa i) (l.getD i []).length (cc i)) := by
  have each : ∀ i : Nat, ∃ (x : Option Addr × Nat), ∀ (hi : i < l.length), ∃ ad, A = some ad ∧ (l.getD i []).length ≤ x.2 ∧ Kd.C (Kd.int .i64) w x.1 (l.getD i []).length (l.getD i []) ∧ w.cell? (ad.add i) = some (.slice x.1 (l.getD i []).length x.2) := by
    intro i
    by_cases hi : i < l.length
    · obtain ⟨ad, cs, hA, _, hK, hcell⟩ := Kd.C_get hr [] (i : Int) (by omega) (by omega)
      obtain ⟨a, cx, rfl, hle, hC⟩ := hK
      refine ⟨(a, cx), fun _ => ⟨ad, hA, hle, hC, ?_⟩⟩
      have := hcell 0 _ rfl
      have e : (i : Int).toNat * (Kd.slice 3 (Kd.int .i64)).sz + 0 = i := by show (i : Int).toNat * 1 + 0 = i; omega
      rw [e] at this
      exact this
    · exact ⟨(none, 0), fun h => absurd h hi⟩
  exact ⟨fun i => (Classical.choose (each i)).1, fun i => (Classical.choose (each i)).2, fun i hi => Classical.choose_spec (each i) hi⟩
/-- A row of numbers, by its block. -/
theorem C_ints_blk {w : World} {g : Nat} {xs : List Int} {t : TypeId} (hb : w.heap[g]? = some (.cells (nums .i64 xs).toArray t (0, 0))) (hm : xs.length ≤ 1000000) : Kd.C (Kd.int .i64) w (some ⟨g, 0, none⟩) xs.length xs := by
  have ho : w.ownsRow 0 t 1 (.slice (some ⟨g, 0, none⟩) xs.length xs.length) xs.length (nums .i64 xs) :=
    ⟨by simp [nums], .inr ⟨g, xs.length, _, rfl, Nat.zero_le _, hb, Nat.le_refl _, by unfold maxLen; omega, by simp [nums], by rw [Nat.mul_one, List.take_of_length_le (by simp [nums])]⟩⟩
  exact Kd.C_of_reads (d := (0 : Int)) (h1 := fun _ => rfl) (own_reads' ho)
/-- A row of rows, by its block. -/
theorem C_rows_blk {w : World} {g : Nat} {vs : List Value} {rows : List (List Int)} {t : TypeId} (hb : w.heap[g]? = some (.cells vs.toArray t (0, 0))) (hl : vs.length = rows.length) (hm : rows.length ≤ 1000000)
    (hv : ∀ (j : Nat) (x : List Int), rows[j]? = some x → ∃ (A : Option Addr) (c : Nat), vs[j]? = some (Value.slice A x.length c) ∧ x.length ≤ c ∧ Kd.C (Kd.int .i64) w A x.length x) : Kd.C (Kd.slice 3 (Kd.int .i64)) w (some ⟨g, 0, none⟩) rows.length rows := by
  refine ⟨rfl, by omega, fun _ => ⟨_, rfl, fun j x hj => ?_⟩⟩
  obtain ⟨A, c, h1, h2, h3⟩ := hv j x hj
  refine ⟨[.slice A x.length c], rfl, ⟨A, c, rfl, h2, h3⟩, fun i u hu => ?_⟩
  cases i with
  | zero =>
    have hu' : Value.slice A x.length c = u := by simpa using hu
    subst hu'
    show w.cell? ((⟨g, 0, none⟩ : Addr).add (j * 1 + 0)) = _
    rw [add_at, blk_cell hb]
    simpa using h1
  | succ i => simp at hu
end Go.Proofs.Ytagffnckmlfcnaa.IdxX
