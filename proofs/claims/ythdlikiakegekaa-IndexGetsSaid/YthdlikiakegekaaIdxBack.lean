import Derived.Test.YthdlikiakegekaaIdxLem
/-! Slots come back from their octets: plain lists. -/
set_option linter.unusedVariables false
namespace Go.Proofs.Ythdlikiakegekaa.IdxBack
open Go.RowKit Go.Proofs.Ythdlikiakegekaa.S Go.Proofs.YthdlikiakegekaaW.PrintWords Go.Proofs.YthdlikiakegekaaW.PrintLast Go.Proofs.YthdlikiakegekaaW.PrintMore
open IdxLem OctW
theorem val_be (x k : Nat) : beVal (beN x k) = x % 256 ^ k := by
  suffices h : ∀ a, (beN x k).foldl (fun n b => n * 256 + b.toNat) a = a * 256 ^ k + x % 256 ^ k by
    have := h 0
    rw [Nat.zero_mul, Nat.zero_add] at this
    exact this
  induction k with
  | zero => intro a; show a = a * 1 + x % 1; omega
  | succ k ih =>
    intro a
    show (beN x k).foldl _ (a * 256 + (UInt8.ofNat (x / 256 ^ k % 256)).toNat) = _
    rw [ih, UInt8.toNat_ofNat', show x / 256 ^ k % 256 % 2 ^ 8 = x / 256 ^ k % 256 by omega, Nat.pow_succ, Nat.mod_mul, Nat.add_mul, Nat.mul_assoc, Nat.mul_comm 256 (256 ^ k), Nat.mul_comm (x / 256 ^ k % 256) (256 ^ k), Nat.add_assoc, Nat.add_comm (x % 256 ^ k)]
theorem num4 (n : Int) (h0 : 0 ≤ n) (h1 : n < 4294967296) : numL n 4 = beN n.toNat 4 := by
  unfold numL
  rw [if_pos ⟨by decide, by decide, h0, by show n < 256 ^ 4; omega⟩]; rfl
theorem num4_len (n : Int) (h0 : 0 ≤ n) (h1 : n < 4294967296) : (numL n 4).length = 4 := by rw [num4 n h0 h1, beN_length]
theorem num4_val (n : Int) (h0 : 0 ≤ n) (h1 : n < 4294967296) : ((beVal (numL n 4) : Nat) : Int) = n := by
  rw [num4 n h0 h1, val_be]
  show ((n.toNat % 256 ^ 4 : Nat) : Int) = n
  rw [show (256 : Nat) ^ 4 = 4294967296 from rfl]; omega
theorem be4_mid (a : List UInt8) (n : Int) (r : List UInt8) (h0 : 0 ≤ n) (h1 : n < 4294967296) : be4 (a ++ numL n 4 ++ r) a.length = n := by
  unfold be4
  rw [List.append_assoc, List.drop_left, List.take_append_of_le_length (by rw [num4_len n h0 h1]; omega), List.take_of_length_le (by rw [num4_len n h0 h1]; omega), num4_val n h0 h1]
theorem slotL_len (x : S53) (h : 0 ≤ x.f0 ∧ x.f0 ≤ 2147483648 ∧ 0 ≤ x.f1 ∧ x.f1 ≤ 131072) : (slotL x).length = 8 := by
  unfold slotL
  rw [List.length_append, num4_len _ h.1 (by omega), num4_len _ h.2.2.1 (by omega)]
theorem slotsL_len8 (l : List S53) (h : ∀ x ∈ l, 0 ≤ x.f0 ∧ x.f0 ≤ 2147483648 ∧ 0 ≤ x.f1 ∧ x.f1 ≤ 131072) : (slotsL l).length = 8 * l.length := by
  induction l with
  | nil => rfl
  | cons x l ih =>
    show (slotL x ++ slotsL l).length = _
    rw [List.length_append, slotL_len x (h x (by simp)), ih (fun y hy => h y (by simp [hy])), List.length_cons]; omega
theorem slots_back (l : List S53) (r : List UInt8) (h : ∀ x ∈ l, 0 ≤ x.f0 ∧ x.f0 ≤ 2147483648 ∧ 0 ≤ x.f1 ∧ x.f1 ≤ 131072) : slotsAt (slotsL l ++ r) l.length = l := by
  apply List.ext_getElem
  · simp [slotsAt]
  · intro i h1 h2
    simp only [slotsAt, List.getElem_map, List.getElem_range]
    have hx := h l[i] (List.getElem_mem h2)
    have hl := slotsL_len8 (l.take i) (fun y hy => h y (List.mem_of_mem_take hy))
    rw [List.length_take, Nat.min_eq_left (by omega)] at hl
    have e : slotsL l ++ r = slotsL (l.take i) ++ numL l[i].f0 4 ++ (numL l[i].f1 4 ++ (slotsL (l.drop (i + 1)) ++ r)) := by
      have e0 := congrArg slotsL (List.take_append_drop i l).symm
      rw [List.drop_eq_getElem_cons h2] at e0
      have e1 : slotsL (l.take i ++ l[i] :: l.drop (i + 1)) = slotsL (l.take i) ++ (slotL l[i] ++ slotsL (l.drop (i + 1))) := by unfold slotsL; rw [List.flatMap_append, List.flatMap_cons]
      rw [e0.trans e1]
      unfold slotL
      simp only [List.append_assoc]
    have e2 : slotsL l ++ r = (slotsL (l.take i) ++ numL l[i].f0 4) ++ numL l[i].f1 4 ++ (slotsL (l.drop (i + 1)) ++ r) := by rw [e]; simp
    have b1 := be4_mid (slotsL (l.take i)) l[i].f0 (numL l[i].f1 4 ++ (slotsL (l.drop (i + 1)) ++ r)) hx.1 (by omega)
    have b2 := be4_mid (slotsL (l.take i) ++ numL l[i].f0 4) l[i].f1 (slotsL (l.drop (i + 1)) ++ r) hx.2.2.1 (by omega)
    rw [← e, hl] at b1
    rw [← e2, List.length_append, hl, num4_len _ hx.1 (by omega)] at b2
    unfold slotAt
    rw [b1, b2]
theorem get_back (l : List S53) (more : List UInt8) (hl : l.length ≤ 20) (hr : rightS (-1) 0 0 l = true) (hm : more.length ≤ 100) : Ev (fun k => index_Get.f k CrcX.crcTab ⟨(putI l ++ more).toArray⟩ (l.length : Int)) (l, 0) := by
  have hf := right_fit l (-1) 0 0 (by omega) (by omega) hr
  have hlen := slotsL_len8 l hf
  have hsum := CrcLem.sumN_lt 0 (slotsL l) (by decide)
  have e0 : putI l ++ more = slotsL l ++ (numL ((CrcLem.sumN 0 (slotsL l) : Nat) : Int) 4 ++ more) := by unfold putI; rw [List.append_assoc]
  have n4 := num4_len ((CrcLem.sumN 0 (slotsL l) : Nat) : Int) (by omega) (by omega)
  have hb := be4_mid (slotsL l) ((CrcLem.sumN 0 (slotsL l) : Nat) : Int) more (by omega) (by omega)
  rw [List.append_assoc, ← e0, hlen] at hb
  have hd : (⟨(putI l ++ more).toArray⟩ : ByteArray).data.toList = putI l ++ more := by simp
  have hsz : (⟨(putI l ++ more).toArray⟩ : ByteArray).size = 8 * l.length + 4 + more.length := by
    rw [sizeB, e0, List.length_append, List.length_append, hlen, n4]; omega
  have ht : (putI l ++ more).take (8 * l.length) = slotsL l := by rw [e0, ← hlen, List.take_left]
  have hs : slotsAt (putI l ++ more) l.length = l := by rw [e0]; exact slots_back l _ hf
  refine Ev.congr (f := fun k => (index_Right.f k l).bind fun t => (if t = true then some (l, 0) else some ([], 4))) (fun k => ?_) ?_
  · unfold index_Get.f
    rw [if_pos ⟨rfl, by rw [hsz]; omega⟩, if_neg (by omega), if_neg (by rw [hsz]; omega), hd, Int.toNat_natCast, ht, hs, if_pos hb]
  · refine Ev.bind (rightE l (by omega)).1 ?_
    rw [hr]
    exact ev_pos rfl (Ev.now _)
theorem same_l (l : List S53) (hl : l.length ≤ 1000) : ∀ d i : Nat, i + d = l.length → Ev (fun k => splicerref32_Same.l0 k l l (i : Int)) true := by
  intro d
  induction d with
  | zero =>
    intro i hi
    refine Ev.step (f := fun _ => some true) (fun k => ?_) (Ev.now _)
    simp only [splicerref32_Same.l0]; rw [if_neg (by omega)]
  | succ d ih =>
    intro i hi
    refine Ev.step (f := fun k => splicerref32_Same.l0 k l l ((i + 1 : Nat) : Int)) (fun k => ?_) (ih (i + 1) (by omega))
    simp only [splicerref32_Same.l0]; rw [if_pos (by omega), if_pos (by omega), if_pos (by omega), if_neg (by simp), wS i (by omega)]
theorem sameE (l : List S53) (hl : l.length ≤ 1000) : Ev (fun k => splicerref32_Same.f k l l) true := by
  unfold splicerref32_Same.f
  exact ev_pos rfl (same_l l hl l.length 0 (by omega))
theorem right_ge : ∀ (l : List S53) (la lf : Int) (i : Nat), rightS la lf i l = true → ∀ y ∈ l, lf ≤ y.f1 := by
  intro l
  induction l with
  | nil => intro _ _ _ _ y hy; cases hy
  | cons x l ih =>
    intro la lf i h y hy
    unfold rightS at h
    split at h
    · rename_i hs
      unfold stepOk at hs
      simp only [decide_eq_true_eq] at hs
      rcases List.mem_cons.1 hy with rfl | hy
      · omega
      · have := ih x.f0 x.f1 (i + 1) h y hy; omega
    · cases h
theorem right_count (n : Int) : ∀ (l : List S53) (la lf : Int) (i : Nat), rightS la lf i l = true → ∀ j (h : j < l.length), (l[j].f1 ≤ n ↔ j < (l.filter fun x => decide (x.f1 ≤ n)).length) := by
  intro l
  induction l with
  | nil => intro _ _ _ _ j h; cases h
  | cons x l ih =>
    intro la lf i h j hj
    unfold rightS at h
    split at h
    · have hge := right_ge l _ _ _ h
      by_cases c : x.f1 ≤ n
      · rw [List.filter_cons_of_pos (by simpa using c), List.length_cons]
        cases j with
        | zero => simp [c]
        | succ j =>
          have := ih _ _ _ h j (by simpa using hj)
          simp only [List.getElem_cons_succ]
          omega
      · have hn : l.filter (fun x => decide (x.f1 ≤ n)) = [] := List.filter_eq_nil_iff.2 fun y hy => by have := hge y hy; simp; omega
        rw [List.filter_cons_of_neg (by simpa using c), hn]
        cases j with
        | zero => simp [c]
        | succ j =>
          have hj' : j < l.length := by simpa using hj
          have := hge l[j] (List.getElem_mem hj')
          simp only [List.getElem_cons_succ, List.length_nil]
          omega
    · cases h
theorem right_froms (l : List S53) (h : rightS (-1) 0 0 l = true) : froms l = true := by
  unfold froms
  refine List.all_eq_true.2 fun b hb => List.all_eq_true.2 fun a ha => ?_
  have hb' := List.mem_range.1 hb
  have ha' := List.mem_range.1 ha
  rw [decide_eq_true_eq, rdT l a (by omega), rdT l b hb']
  have h1 := (right_count l[b].f1 l (-1) 0 0 h b hb').1 (Int.le_refl _)
  exact (right_count l[b].f1 l (-1) 0 0 h a (by omega)).2 (by omega)
end Go.Proofs.Ythdlikiakegekaa.IdxBack
