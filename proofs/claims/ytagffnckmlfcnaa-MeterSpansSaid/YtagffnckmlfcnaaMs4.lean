-- Written for this claim by a program of the session (myprint.py), out of the translation's own print; Lean checks it.
import Derived.Test.YtagffnckmlfcnaaMs0
import Derived.Test.YtagffnckmlfcnaaMs2
import Derived.Test.YtagffnckmlfcnaaMs3
namespace Go.Proofs.Ytagffnckmlfcnaa.S
open Go.RowKit Go.Proofs.YtagffnckmlfcnaaW.PrintWords Go.Proofs.YtagffnckmlfcnaaW.PrintLast Go.Proofs.YtagffnckmlfcnaaW.PrintMore
attribute [local go_sem] max2_int min2_int max_two min_two max_three min_three max_four min_four   -- for this text's walks alone
set_option linter.unusedVariables false
set_option linter.unusedSimpArgs false

/-! ### meter_Trim: function 14 -/
section
open IdxX
def firstA (p : Nat → Bool) (n : Nat) : Nat → Nat → Nat
  | 0, a => a
  | d + 1, a => if p a = false then firstA p n d (a + 1) else a
def lastB (p : Nat → Bool) (a : Nat) : Nat → Nat
  | 0 => 0
  | b + 1 => if a < b + 1 then (if p b = false then lastB p a b else b + 1) else b + 1
def trimP (p : Nat → Bool) (n : Nat) : Nat × Nat := if firstA p n n 0 = lastB p (firstA p n n 0) n then (0, 0) else (firstA p n n 0, lastB p (firstA p n n 0) n)
def trimL (l : List (List Int)) (floor : Int) : Nat × Nat := if rightM l = true ∧ (0 ≤ floor ∧ floor ≤ 32768) then trimP (loudAt l floor) (sizeM l) else (0, 0)
def meter_Trim.f (l0 : List (List Int)) (a1 : Int) : Option (Int × Int) := if sizeM l0 ≤ 200000 then some (((trimL l0 a1).1 : Int), ((trimL l0 a1).2 : Int)) else none
set_option maxHeartbeats 2000000 in
set_option maxRecDepth 100000 in
theorem meter_Trim_run (A0 : Option Addr) (c0 : Nat) (l0 : List (List Int)) (a1 : Int) (w : World) (hs : sizeM l0 ≤ 200000) (hr0 : Kd.C (Kd.slice 3 (Kd.int .i64)) w A0 l0.length l0) (hc0 : l0.length ≤ c0) (hb : rightM l0 = true) (c1 : 0 ≤ a1 ∧ a1 ≤ 32768) :
    Calls Try.prog 14 #[.slice A0 l0.length c0, .int .i64 a1] w fun e w' => e = .returned (.agg #[.int .i64 ((trimP (loudAt l0 a1) (sizeM l0)).1 : Nat), .int .i64 ((trimP (loudAt l0 a1) (sizeM l0)).2 : Nat)]) ∧ Below w.heap.size w w' := by
  have hu := Try.underlying32
  have hfl := floored_f a1
  rw [decide_eq_true c1] at hfl
  have hgo := blk_new w (.cells #[.int .i64 0, .int .i64 0] 32)
  have hB0 := below_alloc (Below.refl w.heap.size w) (.cells #[.int .i64 0, .int .i64 0] 32)
  have HR := Aside0.mk (meter_Right.calls A0 c0 l0 true _ (Kd.C_below hr0 hB0) hc0 (by unfold meter_Right.f; rw [hb]))
  have HROW := Aside0.mk (right_rows hb)
  have HSZ := Aside0.mk (fun W (hW : Below w.heap.size w W) => meter_size.calls A0 c0 l0 _ W (Kd.C_below hr0 hW) hc0 (size_f l0))
  have HC := Aside0.mk hr0
  clear hb c1 hr0
  obtain ⟨n, hn⟩ : ∃ n, n = l0.length := ⟨_, rfl⟩
  rw [← hn] at HR hc0 ⊢
  have HN := Lib.hid hn
  clear hn
  obtain ⟨m, hm⟩ : ∃ m, m = sizeM l0 := ⟨_, rfl⟩
  rw [← hm] at hs HSZ ⊢
  have HM := Lib.hid hm
  clear hm
  obtain ⟨p, hp⟩ : ∃ p, p = loudAt l0 a1 := ⟨_, rfl⟩
  rw [← hp]
  have HP := Lib.hid hp
  clear hp
  obtain ⟨R, hR⟩ : ∃ R, R = trimP p m := ⟨_, rfl⟩
  rw [← hR]
  have HRR := Lib.hid hR
  clear hR
  go_enter Try.func14, Try.ntmps14
  go_upto_region 4 with (first
    | (go_at_call 20; refine HR.out.mono ?_; rintro e w1 ⟨rfl, hb1⟩)
    | (go_at_call 53; refine (meter_floored.calls _ _ _ hfl).mono ?_; rintro e w2 ⟨rfl, ⟨n2, rfl⟩⟩)
    | (go_at_call 54; refine (meter_loud _ _ _ _ _).mono ?_; rintro e w3 ⟨rfl, rfl⟩))
  have hB1 := below_step hB0 hb1
  have hB5 := below_alloc (below_alloc (pw_below_drewN hB1 n2) (.cells #[.slice A0 n c0] 22)) (.cells #[.int .i64 a1] 3)
  have h22 := blk_alloc (blk_new (w1.drewN n2) (.cells #[.slice A0 n c0] 22)) (.cells #[.int .i64 a1] 3)
  have h3 := blk_new ((w1.drewN n2).alloc (.cells #[.slice A0 n c0] 22)) (.cells #[.int .i64 a1] 3)
  rw [World.size_alloc] at h3
  have ho5 := blk_alloc (blk_alloc (blk_drewN (blk_below hgo hb1) n2) (.cells #[.slice A0 n c0] 22)) (.cells #[.int .i64 a1] 3)
  have hoz : w.heap.size ≠ w1.heap.size := by have := blk_lt (blk_below hgo hb1); omega
  generalize ((w1.drewN n2).alloc (.cells #[.slice A0 n c0] 22)).alloc (.cells #[.int .i64 a1] 3) = w5 at *
  have hcl : ∀ i W, i < m → Below w5.heap.size w5 W → Calls Try.prog 101 #[.int .i64 (i : Nat), .pointer (some ⟨w1.heap.size, 0, none⟩), .pointer (some ⟨w1.heap.size + 1, 0, none⟩)] W fun e w' => e = .returned (.bool (p i)) ∧ Below W.heap.size W w' := by
    intro i W hi hW
    have hn := HN.out
    subst hn
    rw [HP.out]
    exact meter_loud1 A0 c0 l0 a1 i _ _ W (Kd.C_below HC.out (below_step hB5 hW)) (fun x hx => by rw [(HROW.out x hx).1, ← HM.out]; exact hi) (fun x hx => (HROW.out x hx).2) (blk_below h22 hW) (blk_below h3 hW)
  have HCL := Aside0.mk hcl
  have HSZ5 := Aside0.mk (HSZ.out w5 hB5)
  rw [← HN.out] at HSZ5
  clear hcl h22 h3 hb1 hB1 HSZ HC HROW hfl hoz
  generalize w1.heap.size + 1 = B2 at *
  generalize w1.heap.size = B at *
  obtain ⟨go, hgoe⟩ : ∃ go, go = w.heap.size := ⟨_, rfl⟩
  rw [← hgoe] at ho5 ⊢
  have hgob : w.heap.size ≤ go := by omega
  clear hgoe hgo
  go_wp2_with (go_at_call 56; refine HSZ5.out.mono ?_; rintro e w6 ⟨rfl, ⟨n6, rfl⟩⟩)
  have h56 : Below w5.heap.size w5 (w5.drewN n6) := pw_below_drewN (Below.refl _ _) n6
  go_loopw [6] (fun v wr => ∃ a : Nat, a ≤ m ∧ v = .int .i64 a ∧ Hid (firstA p m (m - a) a = firstA p m m 0) ∧ Below w5.heap.size w5 wr) (fun v _ => m - (intOf v).toNat)
  case atStart => exact ⟨0, Nat.zero_le _, rfl, Lib.hid rfl, h56⟩
  case round =>
    clear h56
    obtain ⟨a, ha, rfl, HF, hW⟩ := hrel
    by_cases hlt : a < m
    · have hc := decide_eq_true (show (a : Int) < (m : Int) by omega)
      have HA := Aside0.mk (HCL.out a wr hlt hW)
      have HX := Lib.hid (show firstA p m (m - a) a = if p a = false then firstA p m (m - (a + 1)) (a + 1) else a by
        obtain ⟨d, hd⟩ : ∃ d, m - a = d + 1 := ⟨m - a - 1, by omega⟩
        rw [hd, show m - (a + 1) = d by omega]; rfl)
      cases hpa : p a with
      | false =>
        rw [hpa] at HA
        go_wp2_with fail
        refine HA.out.mono ?_
        rintro e w7 ⟨rfl, hb7⟩
        go_wp2_with fail
        go_roundw
        case rel => exact ⟨a + 1, by omega, by go_num, Lib.hid (by have h1 := HX.out; rw [if_pos hpa] at h1; rw [← h1]; exact HF.out), below_step hW hb7⟩
        case measure => simp [intOf]; omega
      | true =>
        rw [hpa] at HA
        go_wp2_with fail
        refine HA.out.mono ?_
        rintro e w7 ⟨rfl, hb7⟩
        go_wp2_with fail
        have hfa : Hid (firstA p m m 0 = a) := Lib.hid (by rw [← HF.out, HX.out, if_neg (by rw [hpa]; decide)])
        have h57 := below_step hW hb7
        clear HA HX hpa hc hb7 hW HF
        go_loopw [7] (fun v wr => ∃ b : Nat, b ≤ m ∧ v = .int .i64 b ∧ Hid (lastB p a b = lastB p a m) ∧ Below w5.heap.size w5 wr) (fun v _ => (intOf v).toNat)
        case atStart => exact ⟨m, Nat.le_refl _, rfl, Lib.hid rfl, h57⟩
        case round =>
          clear h57
          obtain ⟨b, hb, rfl, HL, hW⟩ := hrel
          by_cases hlb : a < b
          · obtain ⟨b', rfl⟩ : ∃ b', b = b' + 1 := ⟨b - 1, by omega⟩
            have hc2 := decide_eq_true (show (a : Int) < ((b' + 1 : Nat) : Int) by omega)
            have ew : wrap64 (((b' + 1 : Nat) : Int) - 1) = (b' : Int) := by unfold wrap64; omega
            have ew2 : ((b' + 1 : Nat) : Int) - 1 = (b' : Int) := by omega
            have HA := Aside0.mk (HCL.out b' wr (by omega) hW)
            have HX := Lib.hid (show lastB p a (b' + 1) = if a < b' + 1 then (if p b' = false then lastB p a b' else b' + 1) else b' + 1 from rfl)
            cases hpb : p b' with
            | false =>
              rw [hpb] at HA
              go_wp2_with fail
              refine HA.out.mono ?_
              rintro e w8 ⟨rfl, hb8⟩
              go_wp2_with fail
              go_roundw
              case rel => exact ⟨b', by omega, by first | rfl | go_num | (rw [ew]) | (rw [ew2]), Lib.hid (by have h1 := HX.out; rw [if_pos hlb, if_pos hpb] at h1; rw [← h1]; exact HL.out), below_step hW hb8⟩
              case measure => simp only [intOf]; (try rw [ew]); (try rw [ew2]); omega
            | true =>
              rw [hpb] at HA
              go_wp2_with fail
              refine HA.out.mono ?_
              rintro e w8 ⟨rfl, hb8⟩
              have hW8 := below_step hW hb8
              obtain ⟨b, hbe⟩ : ∃ b, b = b' + 1 := ⟨_, rfl⟩
              have hLB : lastB p a m = b := by rw [hbe, ← HL.out, HX.out, if_pos hlb, if_neg (by rw [hpb]; decide)]
              have hcast : (((b' + 1 : Nat)) : Int) = (b : Int) := by omega
              have hcast2 : ((b' : Int) + 1) = (b : Int) := by omega
              try rw [hcast]
              try rw [hcast2]
              clear HA ew ew2 hc2 HX hpb
              have hbb : lastB p a m = b := hLB
              have hRab : R = if a = b then (0, 0) else (a, b) := by
                rw [HRR.out]; unfold trimP; rw [hfa.out, hbb]
              have HRAB := Lib.hid hRab
              have hBx := below_step hB5 hW8
              have hox := blk_below ho5 hW8
              have z0 := (blk_cell hox 0).trans (show _ = some (Value.int .i64 0) from rfl)
              have z1 := (blk_cell hox 1).trans (show _ = some (Value.int .i64 0) from rfl)
              have fz0 := blk_frozen hox 0
              have fz1 := blk_frozen hox 1
              clear hRab hbb
              by_cases hab : a = b
              · have hae : ((a : Int) == (b : Int)) = true := beq_iff_eq.2 (by omega)
                have hR0 : R = (0, 0) := by rw [HRAB.out, if_pos hab]
                subst hR0
                have hg9 := st2_blk hox (.int .i64 0) (.int .i64 0)
                have hB9 := below_set (j := 1) (v := .int .i64 0) (below_set (j := 0) (v := .int .i64 0) hBx hgob) hgob
                clear HRAB hab
                go_wp2_with fail
                refine bodyPost_ret (results_cell_row rfl _ _ go 32 _ (0, 0) _ rfl hg9 hu rfl (by kernel_rfl)) rfl ?_
                exact ⟨rfl, hB9⟩
              · have hae : ((a : Int) == (b : Int)) = false := beq_eq_false_iff_ne.2 (by omega)
                have hR0 : R = (a, b) := by rw [HRAB.out, if_neg hab]
                subst hR0
                have hg9 := st2_blk hox (.int .i64 (a : Nat)) (.int .i64 (b : Nat))
                have hB9 := below_set (j := 1) (v := .int .i64 (b : Nat)) (below_set (j := 0) (v := .int .i64 (a : Nat)) hBx hgob) hgob
                clear HRAB hab
                go_wp2_with fail
                refine bodyPost_ret (results_cell_row rfl _ _ go 32 _ (0, 0) _ rfl hg9 hu rfl (by kernel_rfl)) rfl ?_
                exact ⟨rfl, hB9⟩
          · have hc2 := decide_eq_false (show ¬ (a : Int) < (b : Int) by omega)
            have hLB : lastB p a m = b := by
              rw [← HL.out]
              cases b with
              | zero => rfl
              | succ b' => unfold lastB; rw [if_neg hlb]
            have hbb : lastB p a m = b := hLB
            have hRab : R = if a = b then (0, 0) else (a, b) := by
              rw [HRR.out]; unfold trimP; rw [hfa.out, hbb]
            have HRAB := Lib.hid hRab
            have hBx := below_step hB5 hW
            have hox := blk_below ho5 hW
            have z0 := (blk_cell hox 0).trans (show _ = some (Value.int .i64 0) from rfl)
            have z1 := (blk_cell hox 1).trans (show _ = some (Value.int .i64 0) from rfl)
            have fz0 := blk_frozen hox 0
            have fz1 := blk_frozen hox 1
            clear hRab hbb
            by_cases hab : a = b
            · have hae : ((a : Int) == (b : Int)) = true := beq_iff_eq.2 (by omega)
              have hR0 : R = (0, 0) := by rw [HRAB.out, if_pos hab]
              subst hR0
              have hg9 := st2_blk hox (.int .i64 0) (.int .i64 0)
              have hB9 := below_set (j := 1) (v := .int .i64 0) (below_set (j := 0) (v := .int .i64 0) hBx hgob) hgob
              clear HRAB hab
              go_wp2_with fail
              refine bodyPost_ret (results_cell_row rfl _ _ go 32 _ (0, 0) _ rfl hg9 hu rfl (by kernel_rfl)) rfl ?_
              exact ⟨rfl, hB9⟩
            · have hae : ((a : Int) == (b : Int)) = false := beq_eq_false_iff_ne.2 (by omega)
              have hR0 : R = (a, b) := by rw [HRAB.out, if_neg hab]
              subst hR0
              have hg9 := st2_blk hox (.int .i64 (a : Nat)) (.int .i64 (b : Nat))
              have hB9 := below_set (j := 1) (v := .int .i64 (b : Nat)) (below_set (j := 0) (v := .int .i64 (a : Nat)) hBx hgob) hgob
              clear HRAB hab
              go_wp2_with fail
              refine bodyPost_ret (results_cell_row rfl _ _ go 32 _ (0, 0) _ rfl hg9 hu rfl (by kernel_rfl)) rfl ?_
              exact ⟨rfl, hB9⟩
    · obtain rfl : a = m := by omega
      have hc := decide_eq_false (show ¬ (a : Int) < (a : Int) by omega)
      have hfa : Hid (firstA p a a 0 = a) := Lib.hid (by rw [← HF.out, Nat.sub_self]; rfl)
      go_wp2_with fail
      clear hc HF
      go_loopw [7] (fun v wr => ∃ b : Nat, b ≤ a ∧ v = .int .i64 b ∧ Hid (lastB p a b = lastB p a a) ∧ Below w5.heap.size w5 wr) (fun v _ => (intOf v).toNat)
      case atStart => exact ⟨a, Nat.le_refl _, rfl, Lib.hid rfl, hW⟩
      case round =>
        clear hW
        obtain ⟨b, hb, rfl, HL, hW⟩ := hrel
        by_cases hlb : a < b
        · exact absurd hlb (by omega)
        · have hc2 := decide_eq_false (show ¬ (a : Int) < (b : Int) by omega)
          have hLB : lastB p a a = b := by
            rw [← HL.out]
            cases b with
            | zero => rfl
            | succ b' => unfold lastB; rw [if_neg hlb]
          have hbb : lastB p a a = b := hLB
          have hRab : R = if a = b then (0, 0) else (a, b) := by
            rw [HRR.out]; unfold trimP; rw [hfa.out, hbb]
          have HRAB := Lib.hid hRab
          have hBx := below_step hB5 hW
          have hox := blk_below ho5 hW
          have z0 := (blk_cell hox 0).trans (show _ = some (Value.int .i64 0) from rfl)
          have z1 := (blk_cell hox 1).trans (show _ = some (Value.int .i64 0) from rfl)
          have fz0 := blk_frozen hox 0
          have fz1 := blk_frozen hox 1
          clear hRab hbb
          by_cases hab : a = b
          · have hae : ((a : Int) == (b : Int)) = true := beq_iff_eq.2 (by omega)
            have hR0 : R = (0, 0) := by rw [HRAB.out, if_pos hab]
            subst hR0
            have hg9 := st2_blk hox (.int .i64 0) (.int .i64 0)
            have hB9 := below_set (j := 1) (v := .int .i64 0) (below_set (j := 0) (v := .int .i64 0) hBx hgob) hgob
            clear HRAB hab
            go_wp2_with fail
            refine bodyPost_ret (results_cell_row rfl _ _ go 32 _ (0, 0) _ rfl hg9 hu rfl (by kernel_rfl)) rfl ?_
            exact ⟨rfl, hB9⟩
          · have hae : ((a : Int) == (b : Int)) = false := beq_eq_false_iff_ne.2 (by omega)
            have hR0 : R = (a, b) := by rw [HRAB.out, if_neg hab]
            subst hR0
            have hg9 := st2_blk hox (.int .i64 (a : Nat)) (.int .i64 (b : Nat))
            have hB9 := below_set (j := 1) (v := .int .i64 (b : Nat)) (below_set (j := 0) (v := .int .i64 (a : Nat)) hBx hgob) hgob
            clear HRAB hab
            go_wp2_with fail
            refine bodyPost_ret (results_cell_row rfl _ _ go 32 _ (0, 0) _ rfl hg9 hu rfl (by kernel_rfl)) rfl ?_
            exact ⟨rfl, hB9⟩
set_option maxHeartbeats 2000000 in
set_option maxRecDepth 100000 in
theorem meter_Trim_no (A0 : Option Addr) (c0 : Nat) (l0 : List (List Int)) (a1 : Int) (w : World) (hr0 : Kd.C (Kd.slice 3 (Kd.int .i64)) w A0 l0.length l0) (hc0 : l0.length ≤ c0) (b : Bool) (hb : rightM l0 = b) (h : b = false ∨ (b = true ∧ ¬ (0 ≤ a1 ∧ a1 ≤ 32768))) :
    Calls Try.prog 14 #[.slice A0 l0.length c0, .int .i64 a1] w fun e w' => e = .returned (.agg #[.int .i64 0, .int .i64 0]) ∧ Below w.heap.size w w' := by
  have hu := Try.underlying32
  have hgo := blk_new w (.cells #[.int .i64 0, .int .i64 0] 32)
  have hB0 := below_alloc (Below.refl w.heap.size w) (.cells #[.int .i64 0, .int .i64 0] 32)
  have HR := Aside0.mk (meter_Right.calls A0 c0 l0 b _ (Kd.C_below hr0 hB0) hc0 (by unfold meter_Right.f; rw [hb]))
  have hfl := floored_f a1
  clear hb hr0 hc0
  generalize l0.length = n at *
  rcases h with rfl | ⟨rfl, h⟩
  · go_enter Try.func14, Try.ntmps14
    go_wp2_with (go_at_call 20; refine HR.out.mono ?_; rintro e w1 ⟨rfl, hb1⟩; have ho1 := blk_below hgo hb1; have z0 := (blk_cell ho1 0).trans (show _ = some (Value.int .i64 0) from rfl); have z1 := (blk_cell ho1 1).trans (show _ = some (Value.int .i64 0) from rfl); have fz0 := blk_frozen ho1 0; have fz1 := blk_frozen ho1 1)
    have hg9 := st2_blk ho1 (.int .i64 0) (.int .i64 0)
    have hB9 := below_set (j := 1) (v := .int .i64 0) (below_set (j := 0) (v := .int .i64 0) (below_step hB0 hb1) (Nat.le_refl _)) (Nat.le_refl _)
    refine bodyPost_ret (results_cell_row rfl _ _ w.heap.size 32 _ (0, 0) _ rfl hg9 hu rfl (by kernel_rfl)) rfl ?_
    exact ⟨rfl, hB9⟩
  · rw [decide_eq_false h] at hfl
    go_enter Try.func14, Try.ntmps14
    go_wp2_with (first
      | (go_at_call 20; refine HR.out.mono ?_; rintro e w1 ⟨rfl, hb1⟩)
      | (go_at_call 53; refine (meter_floored.calls _ _ _ hfl).mono ?_; rintro e w2 ⟨rfl, ⟨n2, rfl⟩⟩; have ho1 := blk_drewN (blk_below hgo hb1) n2; have z0 := (blk_cell ho1 0).trans (show _ = some (Value.int .i64 0) from rfl); have z1 := (blk_cell ho1 1).trans (show _ = some (Value.int .i64 0) from rfl); have fz0 := blk_frozen ho1 0; have fz1 := blk_frozen ho1 1))
    have hg9 := st2_blk ho1 (.int .i64 0) (.int .i64 0)
    have hB9 := below_set (j := 1) (v := .int .i64 0) (below_set (j := 0) (v := .int .i64 0) (pw_below_drewN (below_step hB0 hb1) n2) (Nat.le_refl _)) (Nat.le_refl _)
    refine bodyPost_ret (results_cell_row rfl _ _ w.heap.size 32 _ (0, 0) _ rfl hg9 hu rfl (by kernel_rfl)) rfl ?_
    exact ⟨rfl, hB9⟩
theorem meter_Trim.calls (A0 : Option Addr) (c0 : Nat) (l0 : List (List Int)) (a1 : Int) (r1 r2 : Int) (w : World) (hr0 : Kd.C (Kd.slice 3 (Kd.int .i64)) w A0 l0.length l0) (hc0 : l0.length ≤ c0) (h : meter_Trim.f l0 a1 = some (r1, r2)) :
    Calls Try.prog 14 #[.slice A0 l0.length c0, .int .i64 a1] w fun e w' => e = .returned (.agg #[.int .i64 r1, .int .i64 r2]) ∧ Below w.heap.size w w' := by
  unfold meter_Trim.f at h
  by_cases hs : sizeM l0 ≤ 200000
  · rw [if_pos hs] at h
    simp only [Option.some.injEq, Prod.mk.injEq] at h
    obtain ⟨rfl, rfl⟩ := h
    unfold trimL
    by_cases hb : rightM l0 = true
    · by_cases c1 : 0 ≤ a1 ∧ a1 ≤ 32768
      · rw [if_pos ⟨hb, c1⟩]
        exact meter_Trim_run A0 c0 l0 a1 w hs hr0 hc0 hb c1
      · rw [if_neg (fun h => c1 h.2)]
        exact meter_Trim_no A0 c0 l0 a1 w hr0 hc0 true hb (.inr ⟨rfl, c1⟩)
    · rw [if_neg (fun h => hb h.1)]
      exact meter_Trim_no A0 c0 l0 a1 w hr0 hc0 false (by simpa using hb) (.inl rfl)
  · rw [if_neg hs] at h; cases h
end

/-! ### num_within: function 116 -/
def num_within.l0 : Nat → Int → List Int → Int → Int → Option (Bool)
  | 0, _, _, _, _ => none
  | k + 1, x0, x7, x8, x9 => if x9 < x8 then (if 0 ≤ x9 then (if x9 < (x7.length : Int) then (if (rd x7 x9) < (wrap64 (-x0)) then (some false) else (if (rd x7 x9) > x0 then (some false) else (num_within.l0 k x0 x7 x8 (wrap64 (x9 + 1))))) else (none)) else (none)) else (some true)
def num_within.f (k : Nat) (a0 : Int) (l1 : List Int) : Option (Bool) := num_within.l0 k a0 l1 (l1.length : Int) 0
theorem num_within.mono_l : ∀ k, (∀ y0 y1 y2 y3, LeO (num_within.l0 k y0 y1 y2 y3) (num_within.l0 (k + 1) y0 y1 y2 y3))
  | 0 => fun _ _ _ _ r h => by simp [num_within.l0] at h
  | k + 1 => by
    have ih0 := num_within.mono_l k
    · intro y0 y1 y2 y3
      unfold num_within.l0
      repeat' first
      | (with_reducible exact ih0 _ _ _ _)
      | (with_reducible exact LeO.refl _)
      | (with_reducible exact LeO.none _)
      | (with_reducible refine LeO.ite ?_ ?_)
      | (with_reducible refine LeO.bind ?_ (fun _ => ?_))
      | exact ih0 _ _ _ _
      | exact LeO.none _
      | refine LeO.ite ?_ ?_
      | refine LeO.bind ?_ (fun _ => ?_)
theorem num_within.mono : ∀ a0 a1 k, LeO (num_within.f k a0 a1) (num_within.f (k + 1) a0 a1) := by
  intro a0 a1 k
  have ih0 := num_within.mono_l k
  unfold num_within.f
  repeat' first
      | (with_reducible exact ih0 _ _ _ _)
      | (with_reducible exact LeO.refl _)
      | (with_reducible exact LeO.none _)
      | (with_reducible refine LeO.ite ?_ ?_)
      | (with_reducible refine LeO.bind ?_ (fun _ => ?_))
      | exact ih0 _ _ _ _
      | exact LeO.none _
      | refine LeO.ite ?_ ?_
      | refine LeO.bind ?_ (fun _ => ?_)
set_option maxHeartbeats 8000000 in
set_option maxRecDepth 100000 in
theorem num_within.calls (k : Nat) (a0 : Int) (A1 : Option Addr) (c1 : Nat) (l1 : List Int) (r : Bool) (w : World) (hr1 : Kd.C (Kd.int .i64) w A1 l1.length l1) (hc1 : l1.length ≤ c1) (h : num_within.f k a0 l1 = some r) :
    Calls Try.prog 116 #[.int .i64 a0, .slice A1 l1.length c1] w fun e w' => e = .returned (.bool r) ∧ Drawn0 w w' := by
  have HR1 := Aside0.mk hr1
  have HC1 := Aside0.mk hc1
  clear hr1 hc1
  have H : (num_within.l0 k a0 l1 (l1.length : Int) 0) = some r := h
  clear h
  have H' := Aside0.mk H
  clear H
  go_enter Try.func116, Try.ntmps116
  go_wp2
  go_loopg [9] k (fun kq v9 w' => ∃ (x9_1 : Int), v9 = .int .i64 x9_1 ∧ Aside0 (num_within.l0 kq a0 l1 (l1.length : Int) x9_1 = some r) ∧ Aside0 (kq ≤ k) ∧ Drawn0 w w')
  case atStart => exact ⟨(0), (by first | rfl | (simp; done) | (simp [*]; done)), H', ⟨Nat.le_refl _⟩, by repeat (first | exact Drawn0.refl _ | apply Drawn0.step)⟩
  case round =>
    clear H'
    try clear c1
    try clear p2
    obtain ⟨x9_1, rfl, HA, HK1, ⟨m1, rfl⟩⟩ := hrel
    cases gk with
    | zero => exact absurd HA.out (by simp [num_within.l0])
    | succ k1 =>
      have H := HA.out
      clear HA
      simp only [num_within.l0] at H
      by_cases c3 : x9_1 < (l1.length : Int)
      · rw [if_pos c3] at H
        have c3b0 : decide (x9_1 < (l1.length : Int)) = true := decide_eq_true c3
        clear c3
        by_cases c4 : 0 ≤ x9_1
        · rw [if_pos c4] at H
          have c4b0 : decide (0 ≤ x9_1) = true := decide_eq_true c4
          clear c4
          by_cases c5 : x9_1 < (l1.length : Int)
          · rw [if_pos c5] at H
            have c5b0 : decide (x9_1 < (l1.length : Int)) = true := decide_eq_true c5
            clear c5
            by_cases c6 : (rd l1 x9_1) < (wrap64 (-a0))
            · rw [if_pos c6] at H
              have c6b0 : decide ((rd l1 x9_1) < (wrap64 (-a0))) = true := decide_eq_true c6
              clear c6
              obtain rfl := Option.some.inj H
              have p109 : 0 ≤ (x9_1 : Int) := of_decide_eq_true (by first | (with_reducible assumption) | assumption)
              have q109 : x9_1 < (l1.length : Int) := of_decide_eq_true (by first | (with_reducible assumption) | assumption)
              obtain ⟨ad109, e109, hx109_0⟩ := Kd.at_int HR1.out x9_1 p109 q109
              cases e109
              replace p109 := eq_true p109
              replace q109 := eq_true q109
              go_wp2
              go_ret
              exact ⟨by first | rfl | (simp; done) | (simp [*]; done), by repeat (first | exact Drawn0.refl _ | apply Drawn0.step)⟩
            · rw [if_neg c6] at H
              have c6b0 : decide ((rd l1 x9_1) < (wrap64 (-a0))) = false := decide_eq_false c6
              clear c6
              by_cases c7 : (rd l1 x9_1) > a0
              · rw [if_pos c7] at H
                have c7b0 : decide (a0 < (rd l1 x9_1)) = true := decide_eq_true c7
                clear c7
                obtain rfl := Option.some.inj H
                have p109 : 0 ≤ (x9_1 : Int) := of_decide_eq_true (by first | (with_reducible assumption) | assumption)
                have q109 : x9_1 < (l1.length : Int) := of_decide_eq_true (by first | (with_reducible assumption) | assumption)
                obtain ⟨ad109, e109, hx109_0⟩ := Kd.at_int HR1.out x9_1 p109 q109
                cases e109
                replace p109 := eq_true p109
                replace q109 := eq_true q109
                go_wp2
                go_ret
                exact ⟨by first | rfl | (simp; done) | (simp [*]; done), by repeat (first | exact Drawn0.refl _ | apply Drawn0.step)⟩
              · rw [if_neg c7] at H
                have c7b0 : decide (a0 < (rd l1 x9_1)) = false := decide_eq_false c7
                clear c7
                have H' := Aside0.mk H
                clear H
                have p109 : 0 ≤ (x9_1 : Int) := of_decide_eq_true (by first | (with_reducible assumption) | assumption)
                have q109 : x9_1 < (l1.length : Int) := of_decide_eq_true (by first | (with_reducible assumption) | assumption)
                obtain ⟨ad109, e109, hx109_0⟩ := Kd.at_int HR1.out x9_1 p109 q109
                cases e109
                replace p109 := eq_true p109
                replace q109 := eq_true q109
                go_wp2
                go_roundg k1
                case measure => have := HK1.out; omega
                case rel => exact ⟨(wrap64 (x9_1 + 1)), (by first | rfl | (simp; done) | (simp [*]; done)), H', ⟨by have := HK1.out; omega⟩, by repeat (first | exact Drawn0.refl _ | apply Drawn0.step)⟩
          · rw [if_neg c5] at H
            exact absurd H (by simp)
        · rw [if_neg c4] at H
          exact absurd H (by simp)
      · rw [if_neg c3] at H
        have c3b0 : decide (x9_1 < (l1.length : Int)) = false := decide_eq_false c3
        clear c3
        obtain rfl := Option.some.inj H
        go_wp2
        go_ret
        exact ⟨by first | rfl | (simp; done) | (simp [*]; done), by repeat (first | exact Drawn0.refl _ | apply Drawn0.step)⟩

/-! ### num_Abs: function 103 -/
def num_Abs.f (k : Nat) (a0 : Int) : Option (Int) := (num_within.f k 4611686018427387904 (([a0] : List Int))).bind fun t113 => (if t113 = true then (if a0 < 0 then (some (wrap64 (-a0))) else (some a0)) else (some 0))
theorem num_Abs.mono : ∀ a0 k, LeO (num_Abs.f k a0) (num_Abs.f (k + 1) a0) := by
  intro a0 k
  unfold num_Abs.f
  repeat' first
      | (with_reducible exact num_within.mono _ _ _)
      | (with_reducible exact LeO.refl _)
      | (with_reducible exact LeO.none _)
      | (with_reducible refine LeO.ite ?_ ?_)
      | (with_reducible refine LeO.bind ?_ (fun _ => ?_))
      | exact num_within.mono _ _ _
      | exact LeO.none _
      | refine LeO.ite ?_ ?_
      | refine LeO.bind ?_ (fun _ => ?_)
set_option maxHeartbeats 8000000 in
set_option maxRecDepth 100000 in
theorem num_Abs.calls (k : Nat) (a0 : Int) (r : Int) (w : World) (h : num_Abs.f k a0 = some r) :
    Calls Try.prog 103 #[.int .i64 a0] w fun e w' => e = .returned (.int .i64 r) ∧ Below w.heap.size w w' := by
  have HB := Aside0.mk (Below.refl w.heap.size w)
  have H : ((num_within.f k 4611686018427387904 (([a0] : List Int))).bind fun t113 => (if t113 = true then (if a0 < 0 then (some (wrap64 (-a0))) else (some a0)) else (some 0))) = some r := h
  clear h
  obtain ⟨y110, hy110⟩ : ∃ y_ : List Int, y_ = (([a0] : List Int)) := ⟨_, rfl⟩
  replace H : ((num_within.f k 4611686018427387904 y110).bind fun t113 => (if t113 = true then (if a0 < 0 then (some (wrap64 (-a0))) else (some a0)) else (some 0))) = some r := by first | (rw [hy110]; with_reducible exact H) | (have H2_ := (Option.bind_some _ _).symm.trans H; rw [hy110]; with_reducible exact H2_) | (have H2_ := (Option.bind_some _ _).symm.trans H; with_reducible exact H2_) | with_reducible exact H | (rw [hy110]; exact H) | exact H
  have Ny110 := Aside0.mk hy110
  clear hy110
  replace H := Option.bind_eq_some_iff.mp H
  obtain ⟨t113, A20, H⟩ := H
  replace H : (if t113 = true then (if a0 < 0 then (some (wrap64 (-a0))) else (some a0)) else (some 0)) = some r := H
  have A2 := Aside0.mk A20
  clear A20
  by_cases c3 : t113 = true
  · subst c3
    have H1 : (if a0 < 0 then (some (wrap64 (-a0))) else (some a0)) = some r := by rw [if_pos rfl] at H; exact H
    clear H
    have H := H1
    clear H1
    by_cases c4 : a0 < 0
    · rw [if_pos c4] at H
      have c4b0 : decide (a0 < 0) = true := decide_eq_true c4
      clear c4
      obtain rfl := Option.some.inj H
      go_enter Try.func103, Try.ntmps103
      go_wp2_with (first | ((with_reducible refine gate_dst (N := 5) rfl ?_); refine Kd.R_lit (Kd.int .i64) _ 3 ?hg (N := 5) ?hd (xs := ([a0] : List Int)) (inner := [.int .i64 a0]) (ok := fun _ => True) (okp := fun _ => True) ?hr ?hp (fun _ hk => hk) trivial (Below.refl _ _) (Nat.le_refl _) (by simp) ?_; (case hd => rfl); (case hg => rfl); (case hr => first | (go_simp; done) | (go_simp; rfl)); (case hp => exact (Reps.one (show Kd.M (Kd.int .i64) _ _ _ a0 [.int .i64 a0] from rfl) (Reps.none _ _))); intro v111 w5 ho6 hb hg_ hnew_; clear hg_ hnew_; (first | rw [← Ny110.out] at ho6 | (simp only [Int.reduceToNat] at ho6; rw [← Ny110.out] at ho6)); have n0_ := Aside0.mk (Kd.R_lower ho6 (below_size (by repeat (first | (with_reducible first | exact HB.out | apply below_alloc | apply pw_below_drewN | apply below_drew1) | exact HB.out)))); have n1_ := Aside0.mk (below_step (by repeat (first | (with_reducible first | exact HB.out | apply below_alloc | apply pw_below_drewN | apply below_drew1) | exact HB.out)) hb); clear HB; have HO112 := n0_; have HB := n1_; clear n0_ n1_; clear hb ho6; obtain ⟨Ao7, co7, eo7⟩ := Kd.R_slice HO112.out; subst eo7) | ((with_reducible refine gate_callee (f := 116) rfl ?_); refine goesL_ (some 6) rfl rfl Try.func116 (by kernel_rfl) rfl #[.int .i64 4611686018427387904, .slice Ao7 y110.length co7] rfl (by (try simp only [List.map_toArray, List.map_cons, List.map_nil]); first | done | rfl | (simp only [List.length_drop, List.length_take]; rfl)) ?_; (with_reducible refine (num_within.calls k 4611686018427387904 _ _ y110 true _ ?side1 ?side2 A2.out).mono ?_); (case side1 => repeat (first | exact (Kd.R_reads' HO112.out).2.2 | (with_reducible refine Kd.C_alloc ?_ _) | (with_reducible refine Kd.C_drewN ?_ _) | (with_reducible refine Kd.C_drew ?_))); (case side2 => exact (Kd.R_reads' HO112.out).2.1); rintro e w' ⟨rfl, ⟨nd, rfl⟩⟩; refine ⟨_, rfl, ?_⟩))
      go_ret
      exact ⟨by first | rfl | (simp [errW_none, errW_some] <;> rfl) | (simp [*, errW_none, errW_some] <;> rfl), by repeat (first | (with_reducible first | exact HB.out | apply below_alloc | apply pw_below_drewN | apply below_drew1) | exact HB.out)⟩
    · rw [if_neg c4] at H
      have c4b0 : decide (a0 < 0) = false := decide_eq_false c4
      clear c4
      obtain rfl := Option.some.inj H
      go_enter Try.func103, Try.ntmps103
      go_wp2_with (first | ((with_reducible refine gate_dst (N := 5) rfl ?_); refine Kd.R_lit (Kd.int .i64) _ 3 ?hg (N := 5) ?hd (xs := ([a0] : List Int)) (inner := [.int .i64 a0]) (ok := fun _ => True) (okp := fun _ => True) ?hr ?hp (fun _ hk => hk) trivial (Below.refl _ _) (Nat.le_refl _) (by simp) ?_; (case hd => rfl); (case hg => rfl); (case hr => first | (go_simp; done) | (go_simp; rfl)); (case hp => exact (Reps.one (show Kd.M (Kd.int .i64) _ _ _ a0 [.int .i64 a0] from rfl) (Reps.none _ _))); intro v111 w8 ho9 hb hg_ hnew_; clear hg_ hnew_; (first | rw [← Ny110.out] at ho9 | (simp only [Int.reduceToNat] at ho9; rw [← Ny110.out] at ho9)); have n0_ := Aside0.mk (Kd.R_lower ho9 (below_size (by repeat (first | (with_reducible first | exact HB.out | apply below_alloc | apply pw_below_drewN | apply below_drew1) | exact HB.out)))); have n1_ := Aside0.mk (below_step (by repeat (first | (with_reducible first | exact HB.out | apply below_alloc | apply pw_below_drewN | apply below_drew1) | exact HB.out)) hb); clear HB; have HO112 := n0_; have HB := n1_; clear n0_ n1_; clear hb ho9; obtain ⟨Ao10, co10, eo10⟩ := Kd.R_slice HO112.out; subst eo10) | ((with_reducible refine gate_callee (f := 116) rfl ?_); refine goesL_ (some 6) rfl rfl Try.func116 (by kernel_rfl) rfl #[.int .i64 4611686018427387904, .slice Ao10 y110.length co10] rfl (by (try simp only [List.map_toArray, List.map_cons, List.map_nil]); first | done | rfl | (simp only [List.length_drop, List.length_take]; rfl)) ?_; (with_reducible refine (num_within.calls k 4611686018427387904 _ _ y110 true _ ?side1 ?side2 A2.out).mono ?_); (case side1 => repeat (first | exact (Kd.R_reads' HO112.out).2.2 | (with_reducible refine Kd.C_alloc ?_ _) | (with_reducible refine Kd.C_drewN ?_ _) | (with_reducible refine Kd.C_drew ?_))); (case side2 => exact (Kd.R_reads' HO112.out).2.1); rintro e w' ⟨rfl, ⟨nd, rfl⟩⟩; refine ⟨_, rfl, ?_⟩))
      go_ret
      exact ⟨by first | rfl | (simp [errW_none, errW_some] <;> rfl) | (simp [*, errW_none, errW_some] <;> rfl), by repeat (first | (with_reducible first | exact HB.out | apply below_alloc | apply pw_below_drewN | apply below_drew1) | exact HB.out)⟩
  · replace c3 := Bool.eq_false_iff.mpr c3
    subst c3
    have H1 : (some 0) = some r := by rw [if_neg (show ¬ (false = true) by decide)] at H; exact H
    clear H
    have H := H1
    clear H1
    obtain rfl := Option.some.inj H
    go_enter Try.func103, Try.ntmps103
    go_wp2_with (first | ((with_reducible refine gate_dst (N := 5) rfl ?_); refine Kd.R_lit (Kd.int .i64) _ 3 ?hg (N := 5) ?hd (xs := ([a0] : List Int)) (inner := [.int .i64 a0]) (ok := fun _ => True) (okp := fun _ => True) ?hr ?hp (fun _ hk => hk) trivial (Below.refl _ _) (Nat.le_refl _) (by simp) ?_; (case hd => rfl); (case hg => rfl); (case hr => first | (go_simp; done) | (go_simp; rfl)); (case hp => exact (Reps.one (show Kd.M (Kd.int .i64) _ _ _ a0 [.int .i64 a0] from rfl) (Reps.none _ _))); intro v111 w11 ho12 hb hg_ hnew_; clear hg_ hnew_; (first | rw [← Ny110.out] at ho12 | (simp only [Int.reduceToNat] at ho12; rw [← Ny110.out] at ho12)); have n0_ := Aside0.mk (Kd.R_lower ho12 (below_size (by repeat (first | (with_reducible first | exact HB.out | apply below_alloc | apply pw_below_drewN | apply below_drew1) | exact HB.out)))); have n1_ := Aside0.mk (below_step (by repeat (first | (with_reducible first | exact HB.out | apply below_alloc | apply pw_below_drewN | apply below_drew1) | exact HB.out)) hb); clear HB; have HO112 := n0_; have HB := n1_; clear n0_ n1_; clear hb ho12; obtain ⟨Ao13, co13, eo13⟩ := Kd.R_slice HO112.out; subst eo13) | ((with_reducible refine gate_callee (f := 116) rfl ?_); refine goesL_ (some 6) rfl rfl Try.func116 (by kernel_rfl) rfl #[.int .i64 4611686018427387904, .slice Ao13 y110.length co13] rfl (by (try simp only [List.map_toArray, List.map_cons, List.map_nil]); first | done | rfl | (simp only [List.length_drop, List.length_take]; rfl)) ?_; (with_reducible refine (num_within.calls k 4611686018427387904 _ _ y110 false _ ?side1 ?side2 A2.out).mono ?_); (case side1 => repeat (first | exact (Kd.R_reads' HO112.out).2.2 | (with_reducible refine Kd.C_alloc ?_ _) | (with_reducible refine Kd.C_drewN ?_ _) | (with_reducible refine Kd.C_drew ?_))); (case side2 => exact (Kd.R_reads' HO112.out).2.1); rintro e w' ⟨rfl, ⟨nd, rfl⟩⟩; refine ⟨_, rfl, ?_⟩))
    go_ret
    exact ⟨by first | rfl | (simp [errW_none, errW_some] <;> rfl) | (simp [*, errW_none, errW_some] <;> rfl), by repeat (first | (with_reducible first | exact HB.out | apply below_alloc | apply pw_below_drewN | apply below_drew1) | exact HB.out)⟩

-- NOT PRINTED: function 58 (meter_meter_hears)

/-! ### root_Sqrt: function 105 -/
mutual
def root_Sqrt.j0 : Nat → Int → Bool → Option (Int)
  | 0, _, _ => none
  | k + 1, x0, x12 => if x12 = true then (some 0) else (root_Sqrt.l0 k x0 0 0)
def root_Sqrt.l0 : Nat → Int → Int → Int → Option (Int)
  | 0, _, _, _ => none
  | k + 1, x0, x3, x13 => if x13 < 31 then (if 0 ≤ (wrap64 (30 - x13)) then (if (wrap64 ((Go.bits .or .i64 x3 (shl .i64 1 (wrap64 (30 - x13)))) * (Go.bits .or .i64 x3 (shl .i64 1 (wrap64 (30 - x13)))))) ≤ x0 then (root_Sqrt.l0 k x0 (Go.bits .or .i64 x3 (shl .i64 1 (wrap64 (30 - x13)))) (wrap64 (x13 + 1))) else (root_Sqrt.l0 k x0 x3 (wrap64 (x13 + 1)))) else (none)) else (some x3)
end
def root_Sqrt.f (k : Nat) (a0 : Int) : Option (Int) := if a0 < 0 then (root_Sqrt.j0 k a0 true) else (root_Sqrt.j0 k a0 (decide (a0 > 1152921504606846976)))
theorem root_Sqrt.mono_l : ∀ k, (∀ y0 y1, LeO (root_Sqrt.j0 k y0 y1) (root_Sqrt.j0 (k + 1) y0 y1)) ∧ (∀ y0 y1 y2, LeO (root_Sqrt.l0 k y0 y1 y2) (root_Sqrt.l0 (k + 1) y0 y1 y2))
  | 0 => ⟨fun _ _ r h => by simp [root_Sqrt.j0] at h, fun _ _ _ r h => by simp [root_Sqrt.l0] at h⟩
  | k + 1 => by
    obtain ⟨ih0, ih1⟩ := root_Sqrt.mono_l k
    refine ⟨?_, ?_⟩
    · intro y0 y1
      unfold root_Sqrt.j0
      repeat' first
      | (with_reducible exact ih0 _ _)
      | (with_reducible exact ih1 _ _ _)
      | (with_reducible exact LeO.refl _)
      | (with_reducible exact LeO.none _)
      | (with_reducible refine LeO.ite ?_ ?_)
      | (with_reducible refine LeO.bind ?_ (fun _ => ?_))
      | exact ih0 _ _
      | exact ih1 _ _ _
      | exact LeO.none _
      | refine LeO.ite ?_ ?_
      | refine LeO.bind ?_ (fun _ => ?_)
    · intro y0 y1 y2
      unfold root_Sqrt.l0
      repeat' first
      | (with_reducible exact ih0 _ _)
      | (with_reducible exact ih1 _ _ _)
      | (with_reducible exact LeO.refl _)
      | (with_reducible exact LeO.none _)
      | (with_reducible refine LeO.ite ?_ ?_)
      | (with_reducible refine LeO.bind ?_ (fun _ => ?_))
      | exact ih0 _ _
      | exact ih1 _ _ _
      | exact LeO.none _
      | refine LeO.ite ?_ ?_
      | refine LeO.bind ?_ (fun _ => ?_)
theorem root_Sqrt.mono : ∀ a0 k, LeO (root_Sqrt.f k a0) (root_Sqrt.f (k + 1) a0) := by
  intro a0 k
  obtain ⟨ih0, ih1⟩ := root_Sqrt.mono_l k
  unfold root_Sqrt.f
  repeat' first
      | (with_reducible exact ih0 _ _)
      | (with_reducible exact ih1 _ _ _)
      | (with_reducible exact LeO.refl _)
      | (with_reducible exact LeO.none _)
      | (with_reducible refine LeO.ite ?_ ?_)
      | (with_reducible refine LeO.bind ?_ (fun _ => ?_))
      | exact ih0 _ _
      | exact ih1 _ _ _
      | exact LeO.none _
      | refine LeO.ite ?_ ?_
      | refine LeO.bind ?_ (fun _ => ?_)
set_option maxHeartbeats 8000000 in
set_option maxRecDepth 100000 in
theorem root_Sqrt.calls (k : Nat) (a0 : Int) (r : Int) (w : World) (h : root_Sqrt.f k a0 = some r) :
    Calls Try.prog 105 #[.int .i64 a0] w fun e w' => e = .returned (.int .i64 r) ∧ Drawn0 w w' := by
  have H : (if a0 < 0 then (root_Sqrt.j0 k a0 true) else (root_Sqrt.j0 k a0 (decide (a0 > 1152921504606846976)))) = some r := h
  clear h
  have HC2 := Aside0.mk H
  clear H
  go_enter Try.func105, Try.ntmps105
  go_upto_region 1 with (fail)
  go_cut [12] (fun v12 wc => ∃ (kq : Nat) (x12_1 : Bool), v12 = .bool x12_1 ∧ Aside0 (root_Sqrt.j0 kq a0 x12_1 = some r) ∧ Aside0 (kq ≤ k) ∧ Drawn0 w wc)
  case first =>
    have H := HC2.out
    clear HC2
    by_cases c3 : a0 < 0
    · rw [if_pos c3] at H
      have c3b0 : decide (a0 < 0) = true := decide_eq_true c3
      clear c3
      (first | rw [c3b0] | (simp only [i64_w, i32_w]; rw [c3b0]) | skip)
      have H' := Aside0.mk H
      clear H
      go_wp2
      go_meet
      case rel => exact ⟨_, (true), (by first | rfl | (simp; done) | (simp [*]; done)), H', ⟨by first | omega | exact Nat.le_refl _⟩, by repeat (first | exact Drawn0.refl _ | apply Drawn0.step)⟩
    · rw [if_neg c3] at H
      have c3b0 : decide (a0 < 0) = false := decide_eq_false c3
      clear c3
      (first | rw [c3b0] | (simp only [i64_w, i32_w]; rw [c3b0]) | skip)
      have H' := Aside0.mk H
      clear H
      go_wp2
      go_meet
      case rel => exact ⟨_, (decide (a0 > 1152921504606846976)), (by first | rfl | (simp; done) | (simp [*]; done)), H', ⟨by first | omega | exact Nat.le_refl _⟩, by repeat (first | exact Drawn0.refl _ | apply Drawn0.step)⟩
  case rest =>
    clear HC2
    try clear c1
    try clear p2
    try clear c3
    try clear c3b0
    obtain ⟨kq, x12_1, rfl, HA, HJ1, ⟨mc1, rfl⟩⟩ := hcut
    cases kq with
    | zero => exact absurd HA.out (by simp [root_Sqrt.j0])
    | succ kj1 =>
      have H := HA.out
      clear HA
      simp only [root_Sqrt.j0] at H
      by_cases c4 : x12_1 = true
      · subst c4
        have H1 : (some 0) = some r := by rw [if_pos rfl] at H; exact H
        clear H
        have H := H1
        clear H1
        obtain rfl := Option.some.inj H
        go_wp2
        go_ret
        exact ⟨by first | rfl | (simp; done) | (simp [*]; done), by repeat (first | exact Drawn0.refl _ | apply Drawn0.step)⟩
      · replace c4 := Bool.eq_false_iff.mpr c4
        subst c4
        have H1 : (root_Sqrt.l0 kj1 a0 0 0) = some r := by rw [if_neg (show ¬ (false = true) by decide)] at H; exact H
        clear H
        have H := H1
        clear H1
        have H' := Aside0.mk H
        clear H
        go_wp2
        go_loopg [3, 13] kj1 (fun kq v3 v13 w' => ∃ (x3_2 : Int) (x13_2 : Int), v3 = .int .i64 x3_2 ∧ v13 = .int .i64 x13_2 ∧ Aside0 (root_Sqrt.l0 kq a0 x3_2 x13_2 = some r) ∧ Aside0 (kq ≤ kj1) ∧ Drawn0 w w')
        case atStart => exact ⟨(0), (0), (by first | rfl | (simp; done) | (simp [*]; done)), (by first | rfl | (simp; done) | (simp [*]; done)), H', ⟨Nat.le_refl _⟩, by repeat (first | exact Drawn0.refl _ | apply Drawn0.step)⟩
        case round =>
          clear H'
          try clear c1
          try clear p2
          try clear c3
          try clear c3b0
          try clear c4
          try clear p2
          obtain ⟨x3_2, x13_2, rfl, rfl, HA, HK2, ⟨m2, rfl⟩⟩ := hrel
          cases gk with
          | zero => exact absurd HA.out (by simp [root_Sqrt.l0])
          | succ k2 =>
            have H := HA.out
            clear HA
            simp only [root_Sqrt.l0] at H
            by_cases c5 : x13_2 < 31
            · rw [if_pos c5] at H
              have c5b0 : decide (x13_2 < 31) = true := decide_eq_true c5
              clear c5
              obtain ⟨ji6, hji6⟩ : ∃ j_ : Int, (wrap64 (30 - x13_2)) = j_ := ⟨_, rfl⟩
              replace H : (if 0 ≤ (ji6) then (if (wrap64 ((Go.bits .or .i64 x3_2 (shl .i64 1 (ji6))) * (Go.bits .or .i64 x3_2 (shl .i64 1 (ji6))))) ≤ a0 then (root_Sqrt.l0 k2 a0 (Go.bits .or .i64 x3_2 (shl .i64 1 (ji6))) (wrap64 (x13_2 + 1))) else (root_Sqrt.l0 k2 a0 x3_2 (wrap64 (x13_2 + 1)))) else (none)) = some r := by first | (rw [hji6] at H; exact H) | (simp only [hji6] at H ⊢; exact H)
              have hji6w : (IntKind.i64.wrap (30 - x13_2)) = ji6 := (i64_w _).trans hji6
              by_cases c7 : 0 ≤ (ji6)
              · rw [if_pos c7] at H
                have c7b0 := eq_true c7
                have c7b1 : decide (0 ≤ (ji6)) = true := decide_eq_true c7
                clear c7
                obtain ⟨ji8, hji8⟩ : ∃ j_ : Int, (shl .i64 1 (ji6)) = j_ := ⟨_, rfl⟩
                replace H : (if (wrap64 ((Go.bits .or .i64 x3_2 (ji8)) * (Go.bits .or .i64 x3_2 (ji8)))) ≤ a0 then (root_Sqrt.l0 k2 a0 (Go.bits .or .i64 x3_2 (ji8)) (wrap64 (x13_2 + 1))) else (root_Sqrt.l0 k2 a0 x3_2 (wrap64 (x13_2 + 1)))) = some r := by first | (rw [hji8] at H; exact H) | (simp only [hji8] at H ⊢; exact H)
                have hji8_ : (IntKind.i64.wrap (1 * 2 ^ min (ji6).toNat 64)) = ji8 := hji8
                have hji8z : (ji6) ≤ 64 → (IntKind.i64.wrap (1 * 2 ^ (ji6).toNat)) = ji8 := shl_small hji8
                have hji8u : (IntKind.i64.wrap (2 ^ min (ji6).toNat 64)) = ji8 := by have h_ := hji8_; rw [Int.one_mul] at h_; exact h_
                have hji8v : (ji6) ≤ 64 → (IntKind.i64.wrap (2 ^ (ji6).toNat)) = ji8 := fun hle_ => by have h_ := hji8z hle_; rw [Int.one_mul] at h_; exact h_
                have hji8y : (wrap64 (1 * 2 ^ min (ji6).toNat 64)) = ji8 := (i64_w _).symm.trans hji8_
                have hji8x : (ji6) ≤ 64 → (wrap64 (1 * 2 ^ (ji6).toNat)) = ji8 := fun h_ => (i64_w _).symm.trans (hji8z h_)
                by_cases c9 : (wrap64 ((Go.bits .or .i64 x3_2 (ji8)) * (Go.bits .or .i64 x3_2 (ji8)))) ≤ a0
                · rw [if_pos c9] at H
                  have c9b0 : decide ((wrap64 ((Go.bits .or .i64 x3_2 (ji8)) * (Go.bits .or .i64 x3_2 (ji8)))) ≤ a0) = true := decide_eq_true c9
                  clear c9
                  have H' := Aside0.mk H
                  clear H
                  go_wp2
                  go_roundg k2
                  case measure => have := HJ1.out; have := HK2.out; omega
                  case rel => exact ⟨(Go.bits .or .i64 x3_2 (ji8)), (wrap64 (x13_2 + 1)), (by first | rfl | (simp; done) | (simp only [← hji8] <;> (first | rfl | simp)) | (simp [*]; done)), (by first | rfl | (simp; done) | (simp [*]; done)), H', ⟨by have := HJ1.out; have := HK2.out; omega⟩, by repeat (first | exact Drawn0.refl _ | apply Drawn0.step)⟩
                · rw [if_neg c9] at H
                  have c9b0 : decide ((wrap64 ((Go.bits .or .i64 x3_2 (ji8)) * (Go.bits .or .i64 x3_2 (ji8)))) ≤ a0) = false := decide_eq_false c9
                  clear c9
                  have H' := Aside0.mk H
                  clear H
                  go_wp2
                  go_roundg k2
                  case measure => have := HJ1.out; have := HK2.out; omega
                  case rel => exact ⟨(x3_2), (wrap64 (x13_2 + 1)), (by first | rfl | (simp; done) | (simp [*]; done)), (by first | rfl | (simp; done) | (simp [*]; done)), H', ⟨by have := HJ1.out; have := HK2.out; omega⟩, by repeat (first | exact Drawn0.refl _ | apply Drawn0.step)⟩
              · rw [if_neg c7] at H
                exact absurd H (by simp)
            · rw [if_neg c5] at H
              have c5b0 : decide (x13_2 < 31) = false := decide_eq_false c5
              clear c5
              obtain rfl := Option.some.inj H
              go_wp2
              go_ret
              exact ⟨by first | rfl | (simp; done) | (simp [*]; done), by repeat (first | exact Drawn0.refl _ | apply Drawn0.step)⟩

-- NOT PRINTED: function 59 (meter_meter_level)

end Go.Proofs.Ytagffnckmlfcnaa.S
