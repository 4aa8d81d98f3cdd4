/- NumTells: for any two numbers, what num holds, shifts, divides, parts and how far it is from 0 is what its reference answers; no condition. -/
import Derived.Test.YtkidbmhmjoogiaaSx3
import Derived.Test.YtkidbmhmjoogiaaNumLem
namespace Go.Proofs.Ytkidbmhmjoogiaa.Pure
open Go.RowKit Go.Proofs.Ytkidbmhmjoogiaa.S Go.Proofs.YtkidbmhmjoogiaaW.PrintWords Go.Proofs.YtkidbmhmjoogiaaW.PrintLast Go.Proofs.Ytkidbmhmjoogiaa.NumLem

theorem NumTells : splicerlaw01_NumTells.Pure := by
  intro a b ha hb
  have a1 := bounds_i64 ha
  have b1 := bounds_i64 hb
  refine ⟨5, ?_⟩
  unfold splicerlaw01_NumTells.f
  obtain ⟨m1, m2⟩ := modE a b a1.1 a1.2 b1.2
  obtain ⟨s1, s2⟩ := satE a
  obtain ⟨h1, h2⟩ := shrE a b a1.1 a1.2 b1.1 b1.2 5 (by decide)
  obtain ⟨d1, d2⟩ := divE a b a1.1 a1.2 b1.2 5 (by decide)
  obtain ⟨c1, c2⟩ := absE a 5 (by decide)
  rw [m1, m2, s1, s2, h1, h2, d1, d2, c1, c2, awakeE 5 (by decide)]
  simp

end Go.Proofs.Ytkidbmhmjoogiaa.Pure
