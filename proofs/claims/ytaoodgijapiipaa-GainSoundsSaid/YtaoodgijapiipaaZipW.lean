import Derived.Test.YtaoodgijapiipaaRoundW
import Derived.Test.YtaoodgijapiipaaProg
import Derived.Lib.Hide
import Derived.RegionTactic
import Derived.Deep.LoopGhost
/-! gain.zip: what stands at the same places of two lists. -/
set_option linter.unusedVariables false
set_option linter.unusedSimpArgs false
namespace Go.Proofs.Ytaoodgijapiipaa.ZipW
open Go.RowKit Go.Proofs.YtaoodgijapiipaaW.PrintWords Go.Proofs.YtaoodgijapiipaaW.PrintLast Go.Proofs.YtaoodgijapiipaaW.PrintMore Go.Proofs.Ytaoodgijapiipaa.RoundW
attribute [local go_sem] Oper.semAt_some wide_fn wide_depth
theorem fin_take {m k : Nat} (h : k < m) : (List.finRange m).take (k + 1) = (List.finRange m).take k ++ [⟨k, h⟩] := by
  rw [List.take_succ_eq_append_getElem (by simpa using h)]
  simp
theorem addr_add_block (a : Addr) (i : Nat) : (a.add i).block = a.block := by unfold Addr.add; split <;> rfl
theorem row_cells {w : World} {A : Option Addr} {l : List Int} (h : Kd.C (Kd.int .i64) w A l.length l) : ∀ i, i < l.length → ∃ ad : Addr, A = some ad ∧ ad.block < w.heap.size ∧ w.cell? (ad.add i) = some (.int .i64 (l.getD i 0)) := by
  intro i hi
  obtain ⟨ad, hA, hc⟩ := Kd.at_int h (i : Int) (by omega) (by omega)
  rw [Int.toNat_natCast] at hc
  have := World.block_lt_of_cell? _ _ hc
  rw [addr_add_block] at this
  refine ⟨ad, hA, this, hc.trans ?_⟩
  unfold rd
  rw [Int.toNat_natCast]
theorem kept_cell {W W' : World} {S : Nat → Prop} {a : Addr} {v : Value} (h : Kept W W' S) (hc : W.cell? a = some v) (hs : ¬ S a.block) : W'.cell? a = some v := by
  have := h.2 a.block (World.block_lt_of_cell? _ _ hc) hs
  simpa [World.cell?, this] using hc
theorem _root_.Go.World.grownBy_drew (w : World) (r : Option Nat) : w.grownBy w.drew r := ⟨rfl, rfl, rfl, Nat.le_refl _, fun _ _ _ => rfl⟩
def ZipII.T3 : Bool × List (List Nat × List Nat) := (true, [([], []), ([], []), ([], []), ([1, 2], [1, 2]), ([3], [3]), ([], []), ([], []), ([5, 6], [5, 6]), ([7], [7]), ([0, 4, 8], [0, 4, 8]), ([9], [9])])
def ZipII.B3 : List Nat := [0, 0, 0, 6, 14, 0, 0, 96, 224, 511, 1023]
theorem ZipII.tab3 : rtab .any (opsOf Try.f65 3) = ZipII.T3 := by kernel_rfl
theorem ZipII.bits3 : waitsOk ZipII.T3.2 ZipII.B3 = true := by kernel_rfl
/- 0:move>13; 1:load>14; 2:move>15; 3:indexAddr>16; 4:load>17; 5:load>18; 6:move>19; 7:indexAddr>20; 8:load>21; 9:call>22; 10:unOp>23 -/
set_option maxHeartbeats 2000000 in
set_option maxRecDepth 100000 in
theorem zip_ii_stops {n : Nat} (hn : 1 ≤ n) (B : Nat) (A1 A2 : Option Addr) (c1 c2 m : Nat) (va vb : Nat → Value) (S : Nat → Prop) (w : World)
    (h1 : w.cell? ⟨B, 0, none⟩ = some (.slice A1 m c1)) (h2 : w.cell? ⟨B + 1, 0, none⟩ = some (.slice A2 m c2)) (hS1 : ¬ S B) (hS2 : ¬ S (B + 1))
    (hc1 : ∀ i, i < m → ∃ ad, A1 = some ad ∧ ¬ S ad.block ∧ w.cell? (ad.add i) = some (va i)) (hc2 : ∀ i, i < m → ∃ ad, A2 = some ad ∧ ¬ S ad.block ∧ w.cell? (ad.add i) = some (vb i)) (hb1 : m ≤ 9223372036854775807) :
    SeqStopsK Fence.wide n Try.prog 65 #[.pointer (some ⟨B, 0, none⟩), .pointer (some ⟨B + 1, 0, none⟩)] (fun i : Fin m => #[va i, vb i]) (fun W W' => Kept W W' S) (fun ys => ys = List.finRange m) (fun _ => True) m w := fun l J Jx W hW hJ hJx hY h0 => by
  refine callsIn_of_wp Try.func65 rfl trivial ?_ rfl
  simp only [Try.ntmps65, List.size_toArray, List.length_cons, List.length_nil, Nat.reduceAdd, Nat.reduceSub, Array.replicate_succ, Array.replicate_zero, List.push_toArray, List.append_toArray, List.nil_append, List.cons_append]
  have k1 : W.cell? ⟨B, 0, none⟩ = some (.slice A1 m c1) := (hW.cell (p := ⟨B, 0, none⟩) (World.block_lt_of_cell? _ _ h1)).trans h1
  have k2 : W.cell? ⟨B + 1, 0, none⟩ = some (.slice A2 m c2) := (hW.cell (p := ⟨B + 1, 0, none⟩) (World.block_lt_of_cell? _ _ h2)).trans h2
  have g1 : ∀ i, i < m → ∃ ad, A1 = some ad ∧ ¬ S ad.block ∧ W.cell? (ad.add i) = some (va i) := fun i hi => by
    obtain ⟨ad, hA, hS, hc⟩ := hc1 i hi
    exact ⟨ad, hA, hS, (hW.cell (p := ad.add i) (World.block_lt_of_cell? _ _ hc)).trans hc⟩
  have g2 : ∀ i, i < m → ∃ ad, A2 = some ad ∧ ¬ S ad.block ∧ W.cell? (ad.add i) = some (vb i) := fun i hi => by
    obtain ⟨ad, hA, hS, hc⟩ := hc2 i hi
    exact ⟨ad, hA, hS, (hW.cell (p := ad.add i) (World.block_lt_of_cell? _ _ hc)).trans hc⟩
  clear h1 h2 hc1 hc2
  have G1 := Aside0.mk g1
  have G2 := Aside0.mk g2
  have HY := Aside0.mk hY
  have HJ := Aside0.mk hJ
  clear g1 g2 hY hJ hJx
  gi_wp2
  have K1 := Aside0.mk k1
  have K2 := Aside0.mk k2
  clear k1 k2
  gi_loopw [10] (fun i wr => ∃ k : Nat, k ≤ m ∧ i = .int .i64 k ∧ J ((List.finRange m).take k) wr ∧ Kept W wr S) (fun i _ => m - (intOf i).toNat)
  case atStart => exact ⟨0, Nat.zero_le _, rfl, h0, Kept.refl _ _⟩
  case round =>
    obtain ⟨k, hk, rfl, hJs, hK⟩ := hrel
    by_cases hlt : k < m
    · have hd : decide ((k : Int) < (m : Int)) = true := decide_eq_true (by omega)
      obtain ⟨ad1, rfl, hs1, he1⟩ := G1.out k hlt
      obtain ⟨ad2, rfl, hs2, he2⟩ := G2.out k hlt
      have k1 := kept_cell hK K1.out hS1
      have k2 := kept_cell hK K2.out hS2
      have k3 := kept_cell hK he1 (by rw [addr_add_block]; exact hs1)
      have k4 := kept_cell hK he2 (by rw [addr_add_block]; exact hs2)
      have hJd := HJ.out _ _ _ none hJs (World.grownBy_drew wr none) (fun r e => by cases e)
      have hYk := yieldB (HY.out _ ⟨k, hlt⟩ _ hJd (by rw [List.length_take]; omega))
      have hft := fin_take hlt
      clear he1 he2
      gi_wp2
      generalize va k = x1 at *
      generalize vb k = x2 at *
      refine startX_ (m := 11) (S := fun w' => w'.cell? ⟨B, 0, none⟩ = some (.slice (some ad1) m c1) ∧ w'.cell? ⟨B + 1, 0, none⟩ = some (.slice (some ad2) m c2) ∧ w'.cell? (ad1.add k) = some x1 ∧ w'.cell? (ad2.add k) = some x2) (ds := [9]) #[false, false, false, false, false, false, false, false, false, false, false] (fun _ => trivial) (by kernel_rfl) (by kernel_rfl) rfl rfl ⟨k1, k2, k3, k4⟩ (fun hHeld => ?_); refine with_tabX ZipII.tab3 ZipII.bits3 (fun HT_ HW_ => ?_)
      refine pureX_ (i := 0) (N := (some 13)) (v := ?_) (a' := ?_) #[true, false, false, false, false, false, false, false, false, false, false] rfl rfl (any_of HT_.out (by kernel_rfl)) (fun _ _ _ h => h) (Or.inl ⟨by rfl, ?_⟩) ?_ ?_
      rotate_left
      · intro w'
        go_simp
        with_reducible rfl
      rotate_left
      · simp only [Act.put, List.setIfInBounds_toArray, List.set_cons_zero, List.set_cons_succ, i64_w, i32_w]
        rfl
      refine pureX_ (i := 2) (N := (some 15)) (v := ?_) (a' := ?_) #[true, false, true, false, false, false, false, false, false, false, false] rfl rfl (any_of HT_.out (by kernel_rfl)) (fun _ _ _ h => h) (Or.inl ⟨by rfl, ?_⟩) ?_ ?_
      rotate_left
      · intro w'
        go_simp
        with_reducible rfl
      rotate_left
      · simp only [Act.put, List.setIfInBounds_toArray, List.set_cons_zero, List.set_cons_succ, i64_w, i32_w]
        rfl
      refine pureX_ (i := 6) (N := (some 19)) (v := ?_) (a' := ?_) #[true, false, true, false, false, false, true, false, false, false, false] rfl rfl (any_of HT_.out (by kernel_rfl)) (fun _ _ _ h => h) (Or.inl ⟨by rfl, ?_⟩) ?_ ?_
      rotate_left
      · intro w'
        go_simp
        with_reducible rfl
      rotate_left
      · simp only [Act.put, List.setIfInBounds_toArray, List.set_cons_zero, List.set_cons_succ, i64_w, i32_w]
        rfl
      refine takeX_ (i := 1) (N := (some 14)) (v := ?_) (a' := ?_) #[true, true, true, false, false, false, true, false, false, false, false] rfl rfl (take_ofW HT_.out HW_.out (by kernel_rfl)) (fun _ _ _ h => h) (Or.inl ⟨by rfl, ?_⟩) hHeld ?_ ?_
      rotate_left
      · intro w' hS_
        go_simp
        obtain ⟨hS1_, hS2_, hS3_, hS4_⟩ := hS_; go_simp; with_reducible rfl
      rotate_left
      · simp only [Act.put, List.setIfInBounds_toArray, List.set_cons_zero, List.set_cons_succ, i64_w, i32_w]
        rfl
      refine pureX_ (i := 3) (N := (some 16)) (v := ?_) (a' := ?_) #[true, true, true, true, false, false, true, false, false, false, false] rfl rfl (any_of HT_.out (by kernel_rfl)) (fun _ _ _ h => h) (Or.inl ⟨by rfl, ?_⟩) ?_ ?_
      rotate_left
      · intro w'
        go_simp
        with_reducible rfl
      rotate_left
      · simp only [Act.put, List.setIfInBounds_toArray, List.set_cons_zero, List.set_cons_succ, i64_w, i32_w]
        rfl
      refine takeX_ (i := 4) (N := (some 17)) (v := ?_) (a' := ?_) #[true, true, true, true, true, false, true, false, false, false, false] rfl rfl (take_ofW HT_.out HW_.out (by kernel_rfl)) (fun _ _ _ h => h) (Or.inl ⟨by rfl, ?_⟩) hHeld ?_ ?_
      rotate_left
      · intro w' hS_
        go_simp
        obtain ⟨hS1_, hS2_, hS3_, hS4_⟩ := hS_; go_simp; with_reducible rfl
      rotate_left
      · simp only [Act.put, List.setIfInBounds_toArray, List.set_cons_zero, List.set_cons_succ, i64_w, i32_w]
        rfl
      refine takeX_ (i := 5) (N := (some 18)) (v := ?_) (a' := ?_) #[true, true, true, true, true, true, true, false, false, false, false] rfl rfl (take_ofW HT_.out HW_.out (by kernel_rfl)) (fun _ _ _ h => h) (Or.inl ⟨by rfl, ?_⟩) hHeld ?_ ?_
      rotate_left
      · intro w' hS_
        go_simp
        obtain ⟨hS1_, hS2_, hS3_, hS4_⟩ := hS_; go_simp; with_reducible rfl
      rotate_left
      · simp only [Act.put, List.setIfInBounds_toArray, List.set_cons_zero, List.set_cons_succ, i64_w, i32_w]
        rfl
      refine pureX_ (i := 7) (N := (some 20)) (v := ?_) (a' := ?_) #[true, true, true, true, true, true, true, true, false, false, false] rfl rfl (any_of HT_.out (by kernel_rfl)) (fun _ _ _ h => h) (Or.inl ⟨by rfl, ?_⟩) ?_ ?_
      rotate_left
      · intro w'
        go_simp
        with_reducible rfl
      rotate_left
      · simp only [Act.put, List.setIfInBounds_toArray, List.set_cons_zero, List.set_cons_succ, i64_w, i32_w]
        rfl
      refine takeX_ (i := 8) (N := (some 21)) (v := ?_) (a' := ?_) #[true, true, true, true, true, true, true, true, true, false, false] rfl rfl (take_ofW HT_.out HW_.out (by kernel_rfl)) (fun _ _ _ h => h) (Or.inl ⟨by rfl, ?_⟩) hHeld ?_ ?_
      rotate_left
      · intro w' hS_
        go_simp
        obtain ⟨hS1_, hS2_, hS3_, hS4_⟩ := hS_; go_simp; with_reducible rfl
      rotate_left
      · simp only [Act.put, List.setIfInBounds_toArray, List.set_cons_zero, List.set_cons_succ, i64_w, i32_w]
        rfl
      refine lastX_ (i := 9) (N := (some 22)) #[true, true, true, true, true, true, true, true, true, true, false] rfl rfl (one_of HT_.out (by kernel_rfl)) (by decide) (fun K hK => ?_)
      refine yieldX_ #[x1, x2] (fun h => (by cases h)) (by kernel_rfl) rfl rfl (by rfl) (by (try simp only [List.map_toArray, List.map_cons, List.map_nil]); first | done | rfl) ?_
      refine (hYk).mono ?_
      rintro e W3 ⟨b, rfl, hbt, hbf⟩
      refine ⟨_, rfl, ?_⟩
      refine hK.out _ _ ?_
      clear hK K
      refine normX_ (a' := ?_) ?_ ?_
      rotate_left
      · show Act.put _ (some 22) _ = _
        simp only [Act.put, List.setIfInBounds_toArray, List.set_cons_zero, List.set_cons_succ, i64_w, i32_w]
        rfl
      refine pureX_ (i := 10) (N := (some 23)) (v := ?_) (a' := ?_) #[true, true, true, true, true, true, true, true, true, true, true] rfl rfl (any_of HT_.out (by kernel_rfl)) (fun _ _ _ h => h) (Or.inl ⟨by rfl, ?_⟩) ?_ ?_
      rotate_left
      · intro w'
        go_simp
        with_reducible rfl
      rotate_left
      · simp only [Act.put, List.setIfInBounds_toArray, List.set_cons_zero, List.set_cons_succ, i64_w, i32_w]
        rfl
      refine doneX_ (done_of HT_.out (by kernel_rfl)) ?_
      have hft' := Lib.hid hft
      clear hft
      cases b with
      | true =>
        obtain ⟨hJ3, hk3⟩ := hbt rfl
        clear hbt hbf
        gi_wp2
        go_roundw
        case rel => exact ⟨k + 1, by omega, by go_num, by rw [hft'.out]; exact hJ3, hK.then_ (Kept.drewN hk3 0) (fun k h => .inl h)⟩
        case measure => simp [intOf]; omega
      | false =>
        have hJx3 := hbf rfl
        clear hbt hbf
        gi_wp2
        refine bodyPost_ret (results_none rfl _ _ _) rfl ?_
        exact ⟨⟨_, rfl⟩, .inr ⟨_, trivial, hJx3⟩⟩
    · obtain rfl : k = m := by omega
      have ht : (List.finRange k).take k = List.finRange k := List.take_of_length_le (by simp)
      rw [ht] at hJs
      clear ht
      gi_wp2
      go_end0
      exact ⟨⟨_, rfl⟩, .inl ⟨_, rfl, hJs⟩⟩
def ZipLL.T3 : Bool × List (List Nat × List Nat) := (true, [([], []), ([], []), ([], []), ([1, 2], [1, 2]), ([3], [3]), ([], []), ([], []), ([5, 6], [5, 6]), ([7], [7]), ([0, 4, 8], [0, 4, 8]), ([9], [9])])
def ZipLL.B3 : List Nat := [0, 0, 0, 6, 14, 0, 0, 96, 224, 511, 1023]
theorem ZipLL.tab3 : rtab .any (opsOf Try.f73 3) = ZipLL.T3 := by kernel_rfl
theorem ZipLL.bits3 : waitsOk ZipLL.T3.2 ZipLL.B3 = true := by kernel_rfl
/- 0:move>13; 1:load>14; 2:move>15; 3:indexAddr>16; 4:load>17; 5:load>18; 6:move>19; 7:indexAddr>20; 8:load>21; 9:call>22; 10:unOp>23 -/
set_option maxHeartbeats 2000000 in
set_option maxRecDepth 100000 in
theorem zip_ll_stops {n : Nat} (hn : 1 ≤ n) (B : Nat) (A1 A2 : Option Addr) (c1 c2 m : Nat) (va vb : Nat → Value) (S : Nat → Prop) (w : World)
    (h1 : w.cell? ⟨B, 0, none⟩ = some (.slice A1 m c1)) (h2 : w.cell? ⟨B + 1, 0, none⟩ = some (.slice A2 m c2)) (hS1 : ¬ S B) (hS2 : ¬ S (B + 1))
    (hc1 : ∀ i, i < m → ∃ ad, A1 = some ad ∧ ¬ S ad.block ∧ w.cell? (ad.add i) = some (va i)) (hc2 : ∀ i, i < m → ∃ ad, A2 = some ad ∧ ¬ S ad.block ∧ w.cell? (ad.add i) = some (vb i)) (hb1 : m ≤ 9223372036854775807) :
    SeqStopsK Fence.wide n Try.prog 73 #[.pointer (some ⟨B, 0, none⟩), .pointer (some ⟨B + 1, 0, none⟩)] (fun i : Fin m => #[va i, vb i]) (fun W W' => Kept W W' S) (fun ys => ys = List.finRange m) (fun _ => True) m w := fun l J Jx W hW hJ hJx hY h0 => by
  refine callsIn_of_wp Try.func73 rfl trivial ?_ rfl
  simp only [Try.ntmps73, List.size_toArray, List.length_cons, List.length_nil, Nat.reduceAdd, Nat.reduceSub, Array.replicate_succ, Array.replicate_zero, List.push_toArray, List.append_toArray, List.nil_append, List.cons_append]
  have k1 : W.cell? ⟨B, 0, none⟩ = some (.slice A1 m c1) := (hW.cell (p := ⟨B, 0, none⟩) (World.block_lt_of_cell? _ _ h1)).trans h1
  have k2 : W.cell? ⟨B + 1, 0, none⟩ = some (.slice A2 m c2) := (hW.cell (p := ⟨B + 1, 0, none⟩) (World.block_lt_of_cell? _ _ h2)).trans h2
  have g1 : ∀ i, i < m → ∃ ad, A1 = some ad ∧ ¬ S ad.block ∧ W.cell? (ad.add i) = some (va i) := fun i hi => by
    obtain ⟨ad, hA, hS, hc⟩ := hc1 i hi
    exact ⟨ad, hA, hS, (hW.cell (p := ad.add i) (World.block_lt_of_cell? _ _ hc)).trans hc⟩
  have g2 : ∀ i, i < m → ∃ ad, A2 = some ad ∧ ¬ S ad.block ∧ W.cell? (ad.add i) = some (vb i) := fun i hi => by
    obtain ⟨ad, hA, hS, hc⟩ := hc2 i hi
    exact ⟨ad, hA, hS, (hW.cell (p := ad.add i) (World.block_lt_of_cell? _ _ hc)).trans hc⟩
  clear h1 h2 hc1 hc2
  have G1 := Aside0.mk g1
  have G2 := Aside0.mk g2
  have HY := Aside0.mk hY
  have HJ := Aside0.mk hJ
  clear g1 g2 hY hJ hJx
  gi_wp2
  have K1 := Aside0.mk k1
  have K2 := Aside0.mk k2
  clear k1 k2
  gi_loopw [10] (fun i wr => ∃ k : Nat, k ≤ m ∧ i = .int .i64 k ∧ J ((List.finRange m).take k) wr ∧ Kept W wr S) (fun i _ => m - (intOf i).toNat)
  case atStart => exact ⟨0, Nat.zero_le _, rfl, h0, Kept.refl _ _⟩
  case round =>
    obtain ⟨k, hk, rfl, hJs, hK⟩ := hrel
    by_cases hlt : k < m
    · have hd : decide ((k : Int) < (m : Int)) = true := decide_eq_true (by omega)
      obtain ⟨ad1, rfl, hs1, he1⟩ := G1.out k hlt
      obtain ⟨ad2, rfl, hs2, he2⟩ := G2.out k hlt
      have k1 := kept_cell hK K1.out hS1
      have k2 := kept_cell hK K2.out hS2
      have k3 := kept_cell hK he1 (by rw [addr_add_block]; exact hs1)
      have k4 := kept_cell hK he2 (by rw [addr_add_block]; exact hs2)
      have hJd := HJ.out _ _ _ none hJs (World.grownBy_drew wr none) (fun r e => by cases e)
      have hYk := yieldB (HY.out _ ⟨k, hlt⟩ _ hJd (by rw [List.length_take]; omega))
      have hft := fin_take hlt
      clear he1 he2
      gi_wp2
      generalize va k = x1 at *
      generalize vb k = x2 at *
      refine startX_ (m := 11) (S := fun w' => w'.cell? ⟨B, 0, none⟩ = some (.slice (some ad1) m c1) ∧ w'.cell? ⟨B + 1, 0, none⟩ = some (.slice (some ad2) m c2) ∧ w'.cell? (ad1.add k) = some x1 ∧ w'.cell? (ad2.add k) = some x2) (ds := [9]) #[false, false, false, false, false, false, false, false, false, false, false] (fun _ => trivial) (by kernel_rfl) (by kernel_rfl) rfl rfl ⟨k1, k2, k3, k4⟩ (fun hHeld => ?_); refine with_tabX ZipLL.tab3 ZipLL.bits3 (fun HT_ HW_ => ?_)
      refine pureX_ (i := 0) (N := (some 13)) (v := ?_) (a' := ?_) #[true, false, false, false, false, false, false, false, false, false, false] rfl rfl (any_of HT_.out (by kernel_rfl)) (fun _ _ _ h => h) (Or.inl ⟨by rfl, ?_⟩) ?_ ?_
      rotate_left
      · intro w'
        go_simp
        with_reducible rfl
      rotate_left
      · simp only [Act.put, List.setIfInBounds_toArray, List.set_cons_zero, List.set_cons_succ, i64_w, i32_w]
        rfl
      refine pureX_ (i := 2) (N := (some 15)) (v := ?_) (a' := ?_) #[true, false, true, false, false, false, false, false, false, false, false] rfl rfl (any_of HT_.out (by kernel_rfl)) (fun _ _ _ h => h) (Or.inl ⟨by rfl, ?_⟩) ?_ ?_
      rotate_left
      · intro w'
        go_simp
        with_reducible rfl
      rotate_left
      · simp only [Act.put, List.setIfInBounds_toArray, List.set_cons_zero, List.set_cons_succ, i64_w, i32_w]
        rfl
      refine pureX_ (i := 6) (N := (some 19)) (v := ?_) (a' := ?_) #[true, false, true, false, false, false, true, false, false, false, false] rfl rfl (any_of HT_.out (by kernel_rfl)) (fun _ _ _ h => h) (Or.inl ⟨by rfl, ?_⟩) ?_ ?_
      rotate_left
      · intro w'
        go_simp
        with_reducible rfl
      rotate_left
      · simp only [Act.put, List.setIfInBounds_toArray, List.set_cons_zero, List.set_cons_succ, i64_w, i32_w]
        rfl
      refine takeX_ (i := 1) (N := (some 14)) (v := ?_) (a' := ?_) #[true, true, true, false, false, false, true, false, false, false, false] rfl rfl (take_ofW HT_.out HW_.out (by kernel_rfl)) (fun _ _ _ h => h) (Or.inl ⟨by rfl, ?_⟩) hHeld ?_ ?_
      rotate_left
      · intro w' hS_
        go_simp
        obtain ⟨hS1_, hS2_, hS3_, hS4_⟩ := hS_; go_simp; with_reducible rfl
      rotate_left
      · simp only [Act.put, List.setIfInBounds_toArray, List.set_cons_zero, List.set_cons_succ, i64_w, i32_w]
        rfl
      refine pureX_ (i := 3) (N := (some 16)) (v := ?_) (a' := ?_) #[true, true, true, true, false, false, true, false, false, false, false] rfl rfl (any_of HT_.out (by kernel_rfl)) (fun _ _ _ h => h) (Or.inl ⟨by rfl, ?_⟩) ?_ ?_
      rotate_left
      · intro w'
        go_simp
        with_reducible rfl
      rotate_left
      · simp only [Act.put, List.setIfInBounds_toArray, List.set_cons_zero, List.set_cons_succ, i64_w, i32_w]
        rfl
      refine takeX_ (i := 4) (N := (some 17)) (v := ?_) (a' := ?_) #[true, true, true, true, true, false, true, false, false, false, false] rfl rfl (take_ofW HT_.out HW_.out (by kernel_rfl)) (fun _ _ _ h => h) (Or.inl ⟨by rfl, ?_⟩) hHeld ?_ ?_
      rotate_left
      · intro w' hS_
        go_simp
        obtain ⟨hS1_, hS2_, hS3_, hS4_⟩ := hS_; go_simp; with_reducible rfl
      rotate_left
      · simp only [Act.put, List.setIfInBounds_toArray, List.set_cons_zero, List.set_cons_succ, i64_w, i32_w]
        rfl
      refine takeX_ (i := 5) (N := (some 18)) (v := ?_) (a' := ?_) #[true, true, true, true, true, true, true, false, false, false, false] rfl rfl (take_ofW HT_.out HW_.out (by kernel_rfl)) (fun _ _ _ h => h) (Or.inl ⟨by rfl, ?_⟩) hHeld ?_ ?_
      rotate_left
      · intro w' hS_
        go_simp
        obtain ⟨hS1_, hS2_, hS3_, hS4_⟩ := hS_; go_simp; with_reducible rfl
      rotate_left
      · simp only [Act.put, List.setIfInBounds_toArray, List.set_cons_zero, List.set_cons_succ, i64_w, i32_w]
        rfl
      refine pureX_ (i := 7) (N := (some 20)) (v := ?_) (a' := ?_) #[true, true, true, true, true, true, true, true, false, false, false] rfl rfl (any_of HT_.out (by kernel_rfl)) (fun _ _ _ h => h) (Or.inl ⟨by rfl, ?_⟩) ?_ ?_
      rotate_left
      · intro w'
        go_simp
        with_reducible rfl
      rotate_left
      · simp only [Act.put, List.setIfInBounds_toArray, List.set_cons_zero, List.set_cons_succ, i64_w, i32_w]
        rfl
      refine takeX_ (i := 8) (N := (some 21)) (v := ?_) (a' := ?_) #[true, true, true, true, true, true, true, true, true, false, false] rfl rfl (take_ofW HT_.out HW_.out (by kernel_rfl)) (fun _ _ _ h => h) (Or.inl ⟨by rfl, ?_⟩) hHeld ?_ ?_
      rotate_left
      · intro w' hS_
        go_simp
        obtain ⟨hS1_, hS2_, hS3_, hS4_⟩ := hS_; go_simp; with_reducible rfl
      rotate_left
      · simp only [Act.put, List.setIfInBounds_toArray, List.set_cons_zero, List.set_cons_succ, i64_w, i32_w]
        rfl
      refine lastX_ (i := 9) (N := (some 22)) #[true, true, true, true, true, true, true, true, true, true, false] rfl rfl (one_of HT_.out (by kernel_rfl)) (by decide) (fun K hK => ?_)
      refine yieldX_ #[x1, x2] (fun h => (by cases h)) (by kernel_rfl) rfl rfl (by rfl) (by (try simp only [List.map_toArray, List.map_cons, List.map_nil]); first | done | rfl) ?_
      refine (hYk).mono ?_
      rintro e W3 ⟨b, rfl, hbt, hbf⟩
      refine ⟨_, rfl, ?_⟩
      refine hK.out _ _ ?_
      clear hK K
      refine normX_ (a' := ?_) ?_ ?_
      rotate_left
      · show Act.put _ (some 22) _ = _
        simp only [Act.put, List.setIfInBounds_toArray, List.set_cons_zero, List.set_cons_succ, i64_w, i32_w]
        rfl
      refine pureX_ (i := 10) (N := (some 23)) (v := ?_) (a' := ?_) #[true, true, true, true, true, true, true, true, true, true, true] rfl rfl (any_of HT_.out (by kernel_rfl)) (fun _ _ _ h => h) (Or.inl ⟨by rfl, ?_⟩) ?_ ?_
      rotate_left
      · intro w'
        go_simp
        with_reducible rfl
      rotate_left
      · simp only [Act.put, List.setIfInBounds_toArray, List.set_cons_zero, List.set_cons_succ, i64_w, i32_w]
        rfl
      refine doneX_ (done_of HT_.out (by kernel_rfl)) ?_
      have hft' := Lib.hid hft
      clear hft
      cases b with
      | true =>
        obtain ⟨hJ3, hk3⟩ := hbt rfl
        clear hbt hbf
        gi_wp2
        go_roundw
        case rel => exact ⟨k + 1, by omega, by go_num, by rw [hft'.out]; exact hJ3, hK.then_ (Kept.drewN hk3 0) (fun k h => .inl h)⟩
        case measure => simp [intOf]; omega
      | false =>
        have hJx3 := hbf rfl
        clear hbt hbf
        gi_wp2
        refine bodyPost_ret (results_none rfl _ _ _) rfl ?_
        exact ⟨⟨_, rfl⟩, .inr ⟨_, trivial, hJx3⟩⟩
    · obtain rfl : k = m := by omega
      have ht : (List.finRange k).take k = List.finRange k := List.take_of_length_le (by simp)
      rw [ht] at hJs
      clear ht
      gi_wp2
      go_end0
      exact ⟨⟨_, rfl⟩, .inl ⟨_, rfl, hJs⟩⟩

set_option maxHeartbeats 1000000 in
set_option maxRecDepth 100000 in
theorem zip_ll (a b : Option Addr) (n c m d : Nat) (w : World) : Calls Try.prog 57 #[.slice a n c, .slice b m d] w fun e w' => e = .returned (.func (.func 73) #[] #[.pointer (some ⟨w.heap.size, 0, none⟩), .pointer (some ⟨w.heap.size + 1, 0, none⟩)]) ∧ w' = (w.alloc (.cells #[.slice a n c] 58)).alloc (.cells #[.slice b m d] 58) := by
  go_enter Try.func57, Try.ntmps57
  go_wp2
  go_ret
  exact ⟨rfl, rfl⟩
set_option maxHeartbeats 1000000 in
set_option maxRecDepth 100000 in
theorem zip_ii (a b : Option Addr) (n c m d : Nat) (w : World) : Calls Try.prog 47 #[.slice a n c, .slice b m d] w fun e w' => e = .returned (.func (.func 65) #[] #[.pointer (some ⟨w.heap.size, 0, none⟩), .pointer (some ⟨w.heap.size + 1, 0, none⟩)]) ∧ w' = (w.alloc (.cells #[.slice a n c] 59)).alloc (.cells #[.slice b m d] 59) := by
  go_enter Try.func47, Try.ntmps47
  go_wp2
  go_ret
  exact ⟨rfl, rfl⟩
end Go.Proofs.Ytaoodgijapiipaa.ZipW
