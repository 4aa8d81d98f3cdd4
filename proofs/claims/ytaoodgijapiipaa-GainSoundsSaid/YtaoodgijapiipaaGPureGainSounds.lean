/- GainSounds: what gain answers of a track, of the rightness of it, and of the distance of two tracks is the reference's; any tracks and gains. -/
import Derived.Test.YtaoodgijapiipaaGGainRowA
import Derived.Test.YtaoodgijapiipaaGGainLem
namespace Go.Proofs.Ytaoodgijapiipaa.Pure
open Go.RowKit Go.Proofs.Ytaoodgijapiipaa.S Go.Proofs.YtaoodgijapiipaaW.PrintWords Go.Proofs.YtaoodgijapiipaaW.PrintLast Go.Proofs.YtaoodgijapiipaaW.PrintMore
open RowsLem GainLem

theorem GainSounds : splicerlaw25_GainSounds.Pure := by
  intro a g b
  refine Ev.rounds ?_
  have aw : (splicerlaw25_awake.f.bind fun t => some t) = some true := rfl
  have hout : Ev (fun k => splicerlaw25_GainSounds.j0 k b true a g) true := by
    refine Ev.step (f := fun _ => some true) (fun k => ?_) (Ev.now true)
    simp only [splicerlaw25_GainSounds.j0]; rw [if_pos trivial, aw]
  refine Ev.bind (fewE a g) ?_
  cases ha : few a g with
  | false => exact ev_neg (by decide) hout
  | true =>
    refine ev_pos rfl ?_
    refine Ev.bind (fewE b []) ?_
    cases hb : few b [] with
    | false => exact hout
    | true =>
      obtain ⟨a1, a2, a3⟩ := few_b ha
      obtain ⟨b1, b2, b3⟩ := few_b hb
      obtain ⟨s1, s2⟩ := sound_b ha
      refine Ev.step (f := fun k => (splicerref25_Sound.f k a g).bind fun t205 => (splicerref25_Right.f k a g).bind fun t209 => if (gainR a g == t209) = true then (splicerref01_SameAll.f k (soundL a g) t205).bind fun t210 => (if t210 = true then (splicerref25_Worst.f k b a).bind fun t212 => (if worstL b a = t212 then (splicerref25_Worst.f k t205 a).bind fun t214 => (if worstL (soundL a g) a = t214 then some true else some false) else some false) else some false) else some false) (fun k => ?_) ?_
      · simp only [splicerlaw25_GainSounds.j0]
        rw [if_neg (by decide)]
        have e : gain_Sound.f a g = some (soundL a g) := by unfold gain_Sound.f; rw [if_pos (by omega)]
        simp only [e, Option.bind_some, gain_Right.f, gain_Worst.f, aw]
      · refine Ev.bind (soundE a g (by omega) (by omega) (fun x hx => by have := a3 x hx; omega)) ?_
        refine Ev.bind (rightE a g (by omega) (by omega) (fun x hx => by have := a3 x hx; omega)) ?_
        refine ev_pos (by simp) ?_
        have hs := sameAllE (soundL a g) (soundL a g) (by omega) (fun x hx => by have := s2 x hx; omega)
        rw [decide_eq_true rfl] at hs
        refine Ev.bind hs ?_
        refine ev_pos rfl ?_
        refine Ev.bind (worstE b a (by omega) (fun x hx => by have := b3 x hx; omega) (fun x hx => by have := a3 x hx; omega)) ?_
        refine ev_pos rfl ?_
        refine Ev.bind (worstE (soundL a g) a s1 s2 (fun x hx => by have := a3 x hx; omega)) ?_
        exact ev_pos rfl (Ev.now true)

end Go.Proofs.Ytaoodgijapiipaa.Pure
