import Derived.Test.YtagffnckmlfcnaaWMore
import Derived.Test.YtagffnckmlfcnaaProg
import Derived.WalkKit
import Derived.BigQuiet
import Derived.RegionTactic
import Derived.Deep.LoopGhost
/-! slices.IndexFunc and ContainsFunc: what they answer of whatever predicate is handed to them. -/
set_option linter.unusedVariables false
set_option linter.unusedSimpArgs false
namespace Go.Proofs.Ytagffnckmlfcnaa.IdxW
open Go.RowKit Go.Proofs.YtagffnckmlfcnaaW.PrintWords Go.Proofs.YtagffnckmlfcnaaW.PrintLast Go.Proofs.YtagffnckmlfcnaaW.PrintMore
/-- The first place below n at which p is so; -1. -/
def idxAt (p : Nat → Bool) (n : Nat) : Int := match (List.range n).find? p with | some i => (i : Int) | none => -1
theorem idxAt_some {p : Nat → Bool} {n i : Nat} (hi : i < n) (hp : p i = true) (hb : ∀ j, j < i → p j = false) : idxAt p n = (i : Int) := by
  have : (List.range n).find? p = some i := by
    rw [List.find?_range_eq_some]
    exact ⟨hp, by simpa using hi, fun j hj => by simp [hb j hj]⟩
  unfold idxAt; rw [this]
theorem idxAt_none {p : Nat → Bool} {n : Nat} (hb : ∀ j, j < n → p j = false) : idxAt p n = -1 := by
  have : (List.range n).find? p = none := by
    rw [List.find?_range_eq_none]
    intro j hj; simp [hb j hj]
  unfold idxAt; rw [this]
theorem idxAt_nonneg (p : Nat → Bool) (n : Nat) : decide (0 ≤ idxAt p n) = (List.range n).any p := by
  unfold idxAt
  cases h : (List.range n).find? p with
  | none =>
    rw [List.find?_eq_none] at h
    have : (List.range n).any p = false := by rw [List.any_eq_false]; exact fun x hx => h x hx
    rw [this]; rfl
  | some i =>
    have hm := List.mem_of_find?_eq_some h
    have hp := List.find?_some h
    have : (List.range n).any p = true := List.any_eq_true.2 ⟨i, hm, hp⟩
    rw [this]
    exact decide_eq_true (by show (0 : Int) ≤ (i : Int); omega)

set_option maxHeartbeats 1000000 in
set_option maxRecDepth 100000 in
theorem index_i (g : Nat) (lb : Array Value) (eg : ∀ args w, (callFunc g args).run Try.prog w = .ok (.enter g args) w) (A : Option Addr) (n c : Nat) (vs : Nat → Value) (p : Nat → Bool) (w : World) (hn : n ≤ 9223372036854775807)
    (hc : 0 < n → ∃ ad, A = some ad ∧ ∀ i, i < n → ∀ W, Below w.heap.size w W → W.cell? (ad.add i) = some (vs i))
    (hp : ∀ i, i < n → ∀ W, Below w.heap.size w W → Calls Try.prog g (#[vs i] ++ lb) W fun e W' => e = .returned (.bool (p i)) ∧ Below W.heap.size W W') :
    Calls Try.prog 107 #[.slice A n c, .func (.func g) #[] lb] w fun e w' => e = .returned (.int .i64 (idxAt p n)) ∧ Below w.heap.size w w' := by
  have HC := Aside0.mk hc
  have HP := Aside0.mk hp
  clear hc hp
  go_enter Try.func107, Try.ntmps107
  go_wp2
  go_loopw [8, 5] (fun v _ wr => ∃ i : Nat, i ≤ n ∧ v = .int .i64 i ∧ Aside0 (∀ j, j < i → p j = false) ∧ Below w.heap.size w wr) (fun v _ _ => n - (intOf v).toNat)
  case atStart => exact ⟨0, Nat.zero_le _, rfl, ⟨fun j hj => absurd hj (Nat.not_lt_zero _)⟩, Below.refl _ _⟩
  case round =>
    obtain ⟨i, hi, rfl, hbef, hB⟩ := hrel
    by_cases hlt : i < n
    · obtain ⟨ad, rfl, hcell⟩ := HC.out (by omega)
      have hci := hcell i hlt _ hB
      have hd : decide ((i : Int) < (n : Int)) = true := decide_eq_true (by omega)
      have hpi := HP.out i hlt _ hB
      generalize vs i = vi at hci hpi
      clear hcell
      cases hpp : p i with
      | true =>
        rw [hpp] at hpi
        have HPI := Aside0.mk hpi
        clear hpi
        go_wp2_with fail
        refine HPI.out.mono ?_
        rintro e w1 ⟨rfl, hb1⟩
        clear HPI
        go_wp2_with fail
        go_ret
        exact ⟨by rw [idxAt_some hlt hpp hbef.out]; rfl, below_step hB hb1⟩
      | false =>
        rw [hpp] at hpi
        have HPI := Aside0.mk hpi
        clear hpi
        go_wp2_with fail
        refine HPI.out.mono ?_
        rintro e w1 ⟨rfl, hb1⟩
        clear HPI
        go_wp2_with fail
        go_roundw
        case rel =>
          refine ⟨i + 1, by omega, by go_num, ⟨fun j hj => ?_⟩, below_step hB hb1⟩
          rcases Nat.lt_succ_iff_lt_or_eq.1 hj with h | rfl
          · exact hbef.out j h
          · exact hpp
        case measure => simp [intOf]; omega
    · obtain rfl : i = n := by omega
      have hd : decide ((i : Int) < (i : Int)) = false := decide_eq_false (by omega)
      go_wp2
      go_ret
      exact ⟨by rw [idxAt_none hbef.out]; rfl, hB⟩

set_option maxHeartbeats 1000000 in
set_option maxRecDepth 100000 in
theorem contains_i (g : Nat) (lb : Array Value) (eg : ∀ args w, (callFunc g args).run Try.prog w = .ok (.enter g args) w) (A : Option Addr) (n c : Nat) (vs : Nat → Value) (p : Nat → Bool) (w : World) (hn : n ≤ 9223372036854775807)
    (hc : 0 < n → ∃ ad, A = some ad ∧ ∀ i, i < n → ∀ W, Below w.heap.size w W → W.cell? (ad.add i) = some (vs i))
    (hp : ∀ i, i < n → ∀ W, Below w.heap.size w W → Calls Try.prog g (#[vs i] ++ lb) W fun e W' => e = .returned (.bool (p i)) ∧ Below W.heap.size W W') :
    Calls Try.prog 61 #[.slice A n c, .func (.func g) #[] lb] w fun e w' => e = .returned (.bool ((List.range n).any p)) ∧ Below w.heap.size w w' := by
  have hi := index_i g lb eg A n c vs p w hn hc hp
  have ha := idxAt_nonneg p n
  generalize idxAt p n = x at *
  generalize (List.range n).any p = y at *
  go_enter Try.func61, Try.ntmps61
  go_wp2_with (go_at_call 107; refine hi.mono ?_; rintro e w1 ⟨rfl, hb⟩)
  go_ret
  exact ⟨by rw [← ha]; rfl, hb⟩

set_option maxHeartbeats 1000000 in
set_option maxRecDepth 100000 in
theorem index_l (g : Nat) (lb : Array Value) (eg : ∀ args w, (callFunc g args).run Try.prog w = .ok (.enter g args) w) (A : Option Addr) (n c : Nat) (vs : Nat → Value) (p : Nat → Bool) (w : World) (hn : n ≤ 9223372036854775807)
    (hc : 0 < n → ∃ ad, A = some ad ∧ ∀ i, i < n → ∀ W, Below w.heap.size w W → W.cell? (ad.add i) = some (vs i))
    (hp : ∀ i, i < n → ∀ W, Below w.heap.size w W → Calls Try.prog g (#[vs i] ++ lb) W fun e W' => e = .returned (.bool (p i)) ∧ Below W.heap.size W W') :
    Calls Try.prog 122 #[.slice A n c, .func (.func g) #[] lb] w fun e w' => e = .returned (.int .i64 (idxAt p n)) ∧ Below w.heap.size w w' := by
  have HC := Aside0.mk hc
  have HP := Aside0.mk hp
  clear hc hp
  go_enter Try.func122, Try.ntmps122
  go_wp2
  go_loopw [8, 5] (fun v _ wr => ∃ i : Nat, i ≤ n ∧ v = .int .i64 i ∧ Aside0 (∀ j, j < i → p j = false) ∧ Below w.heap.size w wr) (fun v _ _ => n - (intOf v).toNat)
  case atStart => exact ⟨0, Nat.zero_le _, rfl, ⟨fun j hj => absurd hj (Nat.not_lt_zero _)⟩, Below.refl _ _⟩
  case round =>
    obtain ⟨i, hi, rfl, hbef, hB⟩ := hrel
    by_cases hlt : i < n
    · obtain ⟨ad, rfl, hcell⟩ := HC.out (by omega)
      have hci := hcell i hlt _ hB
      have hd : decide ((i : Int) < (n : Int)) = true := decide_eq_true (by omega)
      have hpi := HP.out i hlt _ hB
      generalize vs i = vi at hci hpi
      clear hcell
      cases hpp : p i with
      | true =>
        rw [hpp] at hpi
        have HPI := Aside0.mk hpi
        clear hpi
        go_wp2_with fail
        refine HPI.out.mono ?_
        rintro e w1 ⟨rfl, hb1⟩
        clear HPI
        go_wp2_with fail
        go_ret
        exact ⟨by rw [idxAt_some hlt hpp hbef.out]; rfl, below_step hB hb1⟩
      | false =>
        rw [hpp] at hpi
        have HPI := Aside0.mk hpi
        clear hpi
        go_wp2_with fail
        refine HPI.out.mono ?_
        rintro e w1 ⟨rfl, hb1⟩
        clear HPI
        go_wp2_with fail
        go_roundw
        case rel =>
          refine ⟨i + 1, by omega, by go_num, ⟨fun j hj => ?_⟩, below_step hB hb1⟩
          rcases Nat.lt_succ_iff_lt_or_eq.1 hj with h | rfl
          · exact hbef.out j h
          · exact hpp
        case measure => simp [intOf]; omega
    · obtain rfl : i = n := by omega
      have hd : decide ((i : Int) < (i : Int)) = false := decide_eq_false (by omega)
      go_wp2
      go_ret
      exact ⟨by rw [idxAt_none hbef.out]; rfl, hB⟩

set_option maxHeartbeats 1000000 in
set_option maxRecDepth 100000 in
theorem contains_l (g : Nat) (lb : Array Value) (eg : ∀ args w, (callFunc g args).run Try.prog w = .ok (.enter g args) w) (A : Option Addr) (n c : Nat) (vs : Nat → Value) (p : Nat → Bool) (w : World) (hn : n ≤ 9223372036854775807)
    (hc : 0 < n → ∃ ad, A = some ad ∧ ∀ i, i < n → ∀ W, Below w.heap.size w W → W.cell? (ad.add i) = some (vs i))
    (hp : ∀ i, i < n → ∀ W, Below w.heap.size w W → Calls Try.prog g (#[vs i] ++ lb) W fun e W' => e = .returned (.bool (p i)) ∧ Below W.heap.size W W') :
    Calls Try.prog 108 #[.slice A n c, .func (.func g) #[] lb] w fun e w' => e = .returned (.bool ((List.range n).any p)) ∧ Below w.heap.size w w' := by
  have hi := index_l g lb eg A n c vs p w hn hc hp
  have ha := idxAt_nonneg p n
  generalize idxAt p n = x at *
  generalize (List.range n).any p = y at *
  go_enter Try.func108, Try.ntmps108
  go_wp2_with (go_at_call 122; refine hi.mono ?_; rintro e w1 ⟨rfl, hb⟩)
  go_ret
  exact ⟨by rw [← ha]; rfl, hb⟩
end Go.Proofs.Ytagffnckmlfcnaa.IdxW
