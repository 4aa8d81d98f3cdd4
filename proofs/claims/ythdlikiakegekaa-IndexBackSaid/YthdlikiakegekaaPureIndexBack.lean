/- IndexBack: slots that are right come back from their octets; what is found begins not behind what was asked for, and the next one does; any list of up to 20 slots that are right, up to 100 bytes, any number. -/
import Derived.Test.YthdlikiakegekaaIdxRow
import Derived.Test.YthdlikiakegekaaIdxBack
set_option linter.unusedVariables false
namespace Go.Proofs.Ythdlikiakegekaa.Pure
open Go.RowKit Go.Proofs.Ythdlikiakegekaa.S Go.Proofs.YthdlikiakegekaaW.PrintWords Go.Proofs.YthdlikiakegekaaW.PrintLast Go.Proofs.YthdlikiakegekaaW.PrintMore
open IdxLem IdxBack

theorem awB : Ev (fun k => (splicerlaw32_awake.f k).bind fun t => some t) true := Ev.bind awakeE (Ev.now true)
theorem ev_neg {α : Type} {c : Prop} [Decidable c] {g f : Nat → Option α} {r : α} (hc : ¬ c) (h1 : Ev f r) : Ev (fun k => if c then g k else f k) r := by simpa only [if_neg hc] using h1

theorem IndexBack : splicerlaw32_IndexBack.Pure := by
  intro l a1 n _ _
  refine Ev.rounds ?_
  have hout : Ev (fun k => splicerlaw32_IndexBack.j0 k l a1 n true) true := by
    refine Ev.step (f := fun k => (splicerlaw32_awake.f k).bind fun t => some t) (fun k => ?_) awB
    simp only [splicerlaw32_IndexBack.j0]; rw [if_pos trivial]
  by_cases hl : (l.length : Int) > 20
  · exact ev_pos hl hout
  refine ev_neg hl ?_
  refine Ev.bind (rightE l (by omega)).2 ?_
  cases hr : rightS (-1) 0 0 l with
  | false => exact ev_neg (by decide) hout
  | true =>
    refine ev_pos rfl ?_
    by_cases hm : (a1.size : Int) > 100
    · rw [decide_eq_true hm]; exact hout
    · rw [decide_eq_false hm]
      have hf := right_fit l (-1) 0 0 (by omega) (by omega) hr
      have hput := putE l (by omega)
      rw [hr, if_pos rfl] at hput
      have hlen := slotsL_len8 l hf
      have hsum := CrcLem.sumN_lt 0 (slotsL l) (by decide)
      have hpl : (putI l).length = 8 * l.length + 4 := by
        unfold putI
        rw [List.length_append, hlen, num4_len _ (by omega) (by omega)]
      have ha : (⟨(putI l).toArray⟩ : ByteArray) ++ a1 = ⟨(putI l ++ a1.data.toList).toArray⟩ := by apply ByteArray.ext; simp
      have hg := get_back l a1.data.toList (by omega) hr (by show a1.size ≤ 100; omega)
      have hz : index_Size.f (l.length : Int) = some ((8 * l.length + 4 : Nat) : Int) := by
        unfold index_Size.f
        rw [if_neg (by omega), if_neg (by omega)]
        congr 1; unfold wrap64; omega
      have hfind : index_Find.f l n = some (findS l n) := by unfold index_Find.f; rw [if_pos ⟨by omega, right_froms l hr⟩]
      have hcnt := right_count n l (-1) 0 0 hr
      have hcl : (l.filter fun x => decide (x.f1 ≤ n)).length ≤ l.length := List.length_filter_le _ _
      have hj1 : Ev (fun k => splicerlaw32_IndexBack.j1 k l n false) true := by
        refine Ev.step (f := fun k => (splicerlaw32_awake.f k).bind fun t => some t) (fun k => ?_) awB
        simp only [splicerlaw32_IndexBack.j1]
        rw [if_neg (by decide), hfind, Option.bind_some]
        unfold findS
        generalize (l.filter fun x => decide (x.f1 ≤ n)).length = c at *
        have ew : wrap64 ((c : Int) - 1 + 1) = (c : Int) := by unfold wrap64; omega
        rw [if_neg (by omega), if_neg (by omega), ew]
        have hlast : (if (c : Int) ≥ (l.length : Int) then ((splicerlaw32_awake.f k).bind fun t => some t) else (if 0 ≤ (c : Int) then (if (c : Int) < (l.length : Int) then (if ((rd_T53 l (c : Int)).f1) > n then ((splicerlaw32_awake.f k).bind fun t => some t) else (some false)) else none) else none)) = ((splicerlaw32_awake.f k).bind fun t => some t) := by
          by_cases h : (c : Int) ≥ (l.length : Int)
          · rw [if_pos h]
          · have := hcnt c (by omega)
            rw [if_neg h, if_pos (by omega), if_pos (by omega), rdT l c (by omega), if_pos (by omega)]
        by_cases h0 : (c : Int) - 1 < 0
        · rw [if_pos h0]; exact hlast
        · obtain ⟨b, rfl⟩ : ∃ b, c = b + 1 := ⟨c - 1, by omega⟩
          have hb := hcnt b (by omega)
          have eb : (((b + 1 : Nat) : Int) - 1) = (b : Int) := by omega
          rw [if_neg h0, if_pos (by omega), if_pos (by omega), eb, rdT l b (by omega), if_pos (by omega)]
          exact hlast
      refine Ev.step (f := fun k => (index_Put.f k CrcX.crcTab l).bind fun bt176 => (if bt176.1.size + a1.size ≤ 9223372036854775807 then ((index_Get.f k CrcX.crcTab (bt176.1 ++ a1) (l.length : Int)).bind fun bt178 => (if bt176.2 = 0 then (if bt178.2 = 0 then ((splicerref32_Same.f k bt178.1 l).bind fun t182 => (if t182 = true then ((index_Size.f (l.length : Int)).bind fun t183 => (splicerlaw32_IndexBack.j1 k l n ((bt176.1.size : Int) != t183))) else (splicerlaw32_IndexBack.j1 k l n true))) else (splicerlaw32_IndexBack.j1 k l n true)) else (splicerlaw32_IndexBack.j1 k l n true))) else (none))) (fun k => ?_) ?_
      · simp only [splicerlaw32_IndexBack.j0, crc_Make.f, Option.bind_some]; rw [if_neg (by decide)]
      · refine Ev.bind hput ?_
        refine ev_pos (by rw [sizeB, hpl]; omega) ?_
        simp only [ha]
        refine Ev.bind hg ?_
        refine ev_pos (by trivial) (ev_pos (by trivial) ?_)
        refine Ev.bind (sameE l (by omega)) ?_
        refine ev_pos rfl ?_
        rw [hz]
        show Ev (fun k => splicerlaw32_IndexBack.j1 k l n (((⟨(putI l).toArray⟩ : ByteArray).size : Int) != ((8 * l.length + 4 : Nat) : Int))) true
        rw [sizeB, hpl, bne_self_eq_false]
        exact hj1

end Go.Proofs.Ythdlikiakegekaa.Pure
