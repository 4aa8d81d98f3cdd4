/- IndexGets: whatever octets there are, the slots there are the document's, or why there are none; any text of up to 300 bytes, any number of slots. -/
import Derived.Test.YthdlikiakegekaaIx7
import Derived.Test.YthdlikiakegekaaIdxBack
set_option linter.unusedVariables false
namespace Go.Proofs.Ythdlikiakegekaa.Pure
open Go.RowKit Go.Proofs.Ythdlikiakegekaa.S Go.Proofs.YthdlikiakegekaaW.PrintWords Go.Proofs.YthdlikiakegekaaW.PrintLast Go.Proofs.YthdlikiakegekaaW.PrintMore
open IdxLem IdxBack OctW

theorem awG : Ev (fun k => (splicerlaw32_awake.f k).bind fun t => some t) true := Ev.bind awakeE (Ev.now true)
theorem evNeg {α : Type} {c : Prop} [Decidable c] {g f : Nat → Option α} {r : α} (hc : ¬ c) (h1 : Ev f r) : Ev (fun k => if c then g k else f k) r := by simpa only [if_neg hc] using h1
theorem val_inj : ∀ (n : Nat) (x y : List UInt8), x.length = n → y.length = n → beVal x = beVal y → x = y := by
  intro n
  induction n with
  | zero => intro x y hx hy _; rw [List.eq_nil_of_length_eq_zero hx, List.eq_nil_of_length_eq_zero hy]
  | succ n ih =>
    intro x y hx hy h
    rcases List.eq_nil_or_concat x with rfl | ⟨x', b, rfl⟩
    · cases hx
    · rcases List.eq_nil_or_concat y with rfl | ⟨y', c, rfl⟩
      · cases hy
      · rw [List.concat_eq_append] at *
        rw [List.concat_eq_append] at *
        rw [beVal_snoc, beVal_snoc] at h
        rw [List.length_append, List.length_singleton] at hx hy
        have h1 := UInt8.toNat_lt b
        have h2 := UInt8.toNat_lt c
        rw [ih x' y' (by omega) (by omega) (by omega), UInt8.toNat_inj.1 (show b.toNat = c.toNat by omega)]

set_option maxRecDepth 10000 in
theorem tail_iff (s : ByteArray) (m : Nat) (hm : 8 * m + 4 ≤ s.size) :
    (s.extract (8 * m) (8 * m + 4)).toList = (⟨(numL ((CrcLem.sumN 0 (s.data.toList.take (8 * m)) : Nat) : Int) 4).toArray⟩ : ByteArray).toList ↔ be4 s.data.toList (8 * m) = ((CrcLem.sumN 0 (s.data.toList.take (8 * m)) : Nat) : Int) := by
  have hsum := CrcLem.sumN_lt 0 (s.data.toList.take (8 * m)) (by decide)
  generalize CrcLem.sumN 0 (s.data.toList.take (8 * m)) = q at *
  have hq0 : (0 : Int) ≤ (q : Int) := Int.natCast_nonneg q
  have hq1 : (q : Int) < 4294967296 := by omega
  have e : (s.extract (8 * m) (8 * m + 4)).toList = (s.data.toList.drop (8 * m)).take 4 := by
    rw [ByteArray.toList_eq]
    simp only [ByteArray.data_extract, Array.toList_extract, List.extract_eq_take_drop]
    congr 1; omega
  have hl : s.data.toList.length = s.size := Array.length_toList
  have e2 : (⟨(numL (q : Int) 4).toArray⟩ : ByteArray).toList = numL (q : Int) 4 := by rw [ByteArray.toList_eq]
  rw [e, e2]
  unfold be4
  constructor
  · intro h; rw [h]; exact num4_val (q : Int) hq0 hq1
  · intro h
    have := num4_val (q : Int) hq0 hq1
    exact val_inj 4 _ _ (by rw [List.length_take, List.length_drop, hl]; omega) (num4_len _ hq0 hq1) (by omega)

theorem getsE (s : ByteArray) (n : Int) (hs : s.size ≤ 300) : ∃ l e, List.length l ≤ 1000 ∧ Ev (fun k => index_Get.f k CrcX.crcTab s n) (l, e) ∧ Ev (fun k => splicerref32_Get.f k s n) (l, e) := by
  by_cases c1 : n < 0 ∨ 262144 < n
  · refine ⟨[], 1, by simp, Ev.congr (f := fun _ => some ([], 1)) (fun k => ?_) (Ev.now _), Ev.congr (f := fun _ => some ([], 1)) (fun k => ?_) (Ev.now _)⟩
    · unfold index_Get.f; rw [if_pos ⟨rfl, by omega⟩, if_pos c1]
    · unfold splicerref32_Get.f; rw [if_pos (by omega), if_pos c1]
  obtain ⟨m, rfl⟩ := Int.eq_ofNat_of_zero_le (show 0 ≤ n by omega)
  by_cases c2 : (s.size : Int) < 8 * (m : Int) + 4
  · refine ⟨[], 2, by simp, Ev.congr (f := fun _ => some ([], 2)) (fun k => ?_) (Ev.now _), Ev.congr (f := fun _ => some ([], 2)) (fun k => ?_) (Ev.now _)⟩
    · unfold index_Get.f; rw [if_pos ⟨rfl, by omega⟩, if_neg c1, if_pos c2]
    · unfold splicerref32_Get.f; rw [if_pos (by omega), if_neg c1, if_pos c2]
  have hlen : (slotsAt s.data.toList m).length = m := by simp [slotsAt]
  obtain ⟨hr1, hr2⟩ := rightE (slotsAt s.data.toList m) (by omega)
  have htail := tail_iff s m (by omega)
  have hsum := CrcLem.sumN_lt 0 (s.data.toList.take (8 * m)) (by decide)
  have hE : s.extract 0 (8 * m) = ⟨(s.data.toList.take (8 * m)).toArray⟩ := ig_list s (8 * m)
  have hS := sumE (s.data.toList.take (8 * m)) (by rw [List.length_take]; omega)
  have hN := numE ((CrcLem.sumN 0 (s.data.toList.take (8 * m)) : Nat) : Int) (by omega) (by omega)
  have hw : wrap64 ((CrcLem.sumN 0 (s.data.toList.take (8 * m)) : Nat) : Int) = ((CrcLem.sumN 0 (s.data.toList.take (8 * m)) : Nat) : Int) := by unfold wrap64; omega
  have hR : ∀ r : List S53 × Int, Ev (fun k => if (s.extract (8 * m) (8 * m + 4)).toList = (⟨(numL ((CrcLem.sumN 0 (s.data.toList.take (8 * m)) : Nat) : Int) 4).toArray⟩ : ByteArray).toList then
         (splicerref32_Right.f k (slotsAt s.data.toList m)).bind fun t => (if t = true then some (slotsAt s.data.toList m, 0) else some ([], 4))
        else some ([], 5)) r → Ev (fun k => splicerref32_Get.f k s (m : Int)) r := by
    intro r h
    refine Ev.congr (f := fun k => (splicerref03_Sum.f k ⟨(s.data.toList.take (8 * m)).toArray⟩).bind fun sm => (splicerref02_Num.f k (wrap64 sm) 4).bind fun nb =>
       (if (s.extract (8 * m) (8 * m + 4)).toList = nb.toList then
         (splicerref32_Right.f k (slotsAt s.data.toList m)).bind fun t => (if t = true then some (slotsAt s.data.toList m, 0) else some ([], 4))
        else some ([], 5))) (fun k => ?_) ?_
    · unfold splicerref32_Get.f
      rw [if_pos (by omega), if_neg c1, if_neg c2, Int.toNat_natCast, hE]
    · refine Ev.bind hS ?_
      rw [hw]
      exact Ev.bind hN h
  by_cases c3 : be4 s.data.toList (8 * m) = ((CrcLem.sumN 0 (s.data.toList.take (8 * m)) : Nat) : Int)
  · have c3' := htail.2 c3
    have hI : ∀ r : List S53 × Int, Ev (fun k => (index_Right.f k (slotsAt s.data.toList m)).bind fun t => (if t = true then some (slotsAt s.data.toList m, 0) else some ([], 4))) r → Ev (fun k => index_Get.f k CrcX.crcTab s (m : Int)) r := by
      intro r h
      refine Ev.congr (fun k => ?_) h
      unfold index_Get.f; rw [if_pos ⟨rfl, by omega⟩, if_neg c1, if_neg c2, Int.toNat_natCast, if_pos c3]
    cases hb : rightS (-1) 0 0 (slotsAt s.data.toList m) with
    | true =>
      rw [hb] at hr1 hr2
      exact ⟨slotsAt s.data.toList m, 0, by omega, hI _ (Ev.bind hr1 (ev_pos rfl (Ev.now _))), hR _ (ev_pos c3' (Ev.bind hr2 (ev_pos rfl (Ev.now _))))⟩
    | false =>
      rw [hb] at hr1 hr2
      exact ⟨[], 4, by simp, hI _ (Ev.bind hr1 (evNeg (by decide) (Ev.now _))), hR _ (ev_pos c3' (Ev.bind hr2 (evNeg (by decide) (Ev.now _))))⟩
  · refine ⟨[], 5, by simp, Ev.congr (f := fun _ => some ([], 5)) (fun k => ?_) (Ev.now _), hR _ (evNeg (fun h => c3 (htail.1 h)) (Ev.now _))⟩
    unfold index_Get.f; rw [if_pos ⟨rfl, by omega⟩, if_neg c1, if_neg c2, Int.toNat_natCast, if_neg c3]

set_option maxRecDepth 10000 in
theorem IndexGets : splicerlaw32_IndexGets.Pure := by
  intro s n _ _
  refine Ev.rounds ?_
  by_cases hl : (s.size : Int) > 300
  · exact ev_pos hl awG
  refine evNeg hl ?_
  obtain ⟨l, e, hll, h1, h2⟩ := getsE s n (by omega)
  show Ev (fun k => (index_Get.f k CrcX.crcTab s n).bind _) true
  refine Ev.bind h1 (Ev.bind h2 (Ev.bind (Ev.now ([], 1)) (Ev.bind (sameE l hll) (ev_pos rfl (ev_pos rfl (ev_pos rfl awG))))))

end Go.Proofs.Ythdlikiakegekaa.Pure
