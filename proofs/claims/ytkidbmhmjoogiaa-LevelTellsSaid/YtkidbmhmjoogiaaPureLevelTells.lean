/- LevelTells: for any two numbers, how loud a band, a frame and a sample is, and which band is as loud as a number, is what the reference of level answers; no condition. -/
import Derived.Test.YtkidbmhmjoogiaaSx6
import Derived.Test.YtkidbmhmjoogiaaLevelLem
namespace Go.Proofs.Ytkidbmhmjoogiaa.Pure
open Go.RowKit Go.Proofs.Ytkidbmhmjoogiaa.S Go.Proofs.YtkidbmhmjoogiaaW.PrintWords Go.Proofs.YtkidbmhmjoogiaaW.PrintLast Go.Proofs.Ytkidbmhmjoogiaa.NumLem

theorem LevelTells : splicerlaw08_LevelTells.Pure := by
  intro a b _ _
  refine ⟨300, ?_⟩
  unfold splicerlaw08_LevelTells.f
  obtain ⟨n, h1, h2⟩ := LevelLem.findE a 300 (by decide)
  obtain ⟨m, h3, h4⟩ := LevelLem.rfindE a 300 (by decide)
  obtain rfl := LevelLem.Is_one h2 h4
  obtain ⟨p1, p2⟩ := LevelLem.applyE a b 300 (by decide)
  rw [h1, h3, LevelLem.ampE, LevelLem.rampE _ _ 300 (by decide), LevelLem.gainE, LevelLem.rgainE _ 300 (by decide), p1, p2, LevelLem.awakeE 300 (by decide)]
  simp

end Go.Proofs.Ytkidbmhmjoogiaa.Pure
