/- IndexTells: whether slots are right, their octets, and an index's size are the reference's; any list of up to 20 slots, any number. -/
import Derived.Test.YthdlikiakegekaaIdxRow
import Derived.Test.YthdlikiakegekaaIdxLem
set_option linter.unusedVariables false
namespace Go.Proofs.Ythdlikiakegekaa.Pure
open Go.RowKit Go.Proofs.Ythdlikiakegekaa.S Go.Proofs.YthdlikiakegekaaW.PrintWords Go.Proofs.YthdlikiakegekaaW.PrintLast Go.Proofs.YthdlikiakegekaaW.PrintMore
open IdxLem

theorem aw : Ev (fun k => (splicerlaw32_awake.f k).bind fun t => some t) true := Ev.bind awakeE (Ev.now true)
theorem sizeE (n : Int) (h0 : -9223372036854775808 ≤ n) (h1 : n ≤ 9223372036854775807) : index_Size.f n = splicerref32_Size.f n ∧ ∃ r, splicerref32_Size.f n = some r := by
  unfold index_Size.f splicerref32_Size.f
  rw [Int.mul_comm n 8]
  refine ⟨rfl, ?_⟩
  split
  · exact ⟨_, rfl⟩
  · split <;> exact ⟨_, rfl⟩

theorem IndexTells : splicerlaw32_IndexTells.Pure := by
  intro l n hn
  have bn := bounds_i64 hn
  refine Ev.rounds ?_
  by_cases hl : (l.length : Int) > 20
  · refine Ev.congr (f := fun k => (splicerlaw32_awake.f k).bind fun t => some t) (fun k => ?_) aw
    unfold splicerlaw32_IndexTells.f; rw [if_pos hl]
  · obtain ⟨hs, r, hr⟩ := sizeE n bn.1 bn.2
    have R := rightE l (by omega)
    refine Ev.congr (f := fun k => (index_Put.f k CrcX.crcTab l).bind fun bt160 => ((splicerref32_Put.f k l).bind fun bt162 => (if bt160.1.toList = bt162.1.toList then (if bt160.2 = bt162.2 then ((index_Right.f k l).bind fun t166 => ((splicerref32_Right.f k l).bind fun t167 => (if (t166 == t167) = true then ((splicerlaw32_awake.f k).bind fun t170 => (some t170)) else (some false)))) else (some false)) else (some false)))) (fun k => ?_) ?_
    · unfold splicerlaw32_IndexTells.f
      rw [if_neg hl]
      simp only [crc_Make.f, Option.bind_some, index_Put_nil.f, hs, hr]
      rfl
    · refine Ev.bind (putE l (by omega)) ?_
      refine Ev.bind (rputE l (by omega)) ?_
      refine ev_pos rfl (ev_pos rfl ?_)
      refine Ev.bind R.1 ?_
      refine Ev.bind R.2 ?_
      exact ev_pos (by simp) aw

end Go.Proofs.Ythdlikiakegekaa.Pure
