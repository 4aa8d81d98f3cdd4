import Derived.Test.YthdlikiakegekaaRoundW
import Derived.Test.YthdlikiakegekaaProg
import Derived.Lib.Hide
import Derived.RegionTactic
import Derived.Deep.LoopGhost
/-! header.fields: where a header's fields are, and how many octets they have. -/
set_option linter.unusedVariables false
set_option linter.unusedSimpArgs false
namespace Go.Proofs.Ythdlikiakegekaa.HdrW
open Go.RowKit Go.Proofs.YthdlikiakegekaaW.PrintWords Go.Proofs.YthdlikiakegekaaW.PrintLast Go.Proofs.YthdlikiakegekaaW.PrintMore Go.Proofs.Ythdlikiakegekaa.RoundW
attribute [local go_sem] Oper.semAt_some wide_fn wide_depth
/-- All blocks of cells are as they were, but for some, and for some types. -/
def TK (S T : Nat → Prop) (W W' : World) : Prop := W.heap.size ≤ W'.heap.size ∧ ∀ (k : Nat) (cs : Array Value) (t : Nat) (fr : Nat × Nat), W.heap[k]? = some (.cells cs t fr) → ¬ S k → ¬ T t → W'.heap[k]? = some (.cells cs t fr)
theorem TK.refl (S T : Nat → Prop) (W : World) : TK S T W W := ⟨Nat.le_refl _, fun _ _ _ _ h _ _ => h⟩
theorem TK.then_ {S T : Nat → Prop} {A B C : World} (h : TK S T A B) (k : TK S T B C) : TK S T A C := ⟨Nat.le_trans h.1 k.1, fun i cs t fr hi hs ht => k.2 i cs t fr (h.2 i cs t fr hi hs ht) hs ht⟩
theorem TK.below {S T : Nat → Prop} {A B : World} (h : Below A.heap.size A B) : TK S T A B := ⟨h.size, fun k cs t fr hk _ _ => blk_below hk h⟩
theorem TK.put {S T : Nat → Prop} {W : World} {l : Nat} {o o' : Obj} (hl : W.heap[l]? = some o) (hc : o.isCells = false) : TK S T W (W.putObj l o') := by
  refine ⟨by simp [World.putObj], fun k cs t fr hk _ _ => ?_⟩
  by_cases e : k = l
  · subst e; rw [hl] at hk; cases hk; cases hc
  · have hne : l ≠ k := fun h => e h.symm
    show (W.heap.setIfInBounds l o')[k]? = _
    rw [Array.getElem?_setIfInBounds_ne hne]; exact hk
theorem TK.keep {S T : Nat → Prop} {W W' : World} {g : Nat} (h : KeepBut W W' g none) (hg : S g) : TK S T W W' := ⟨h.1, fun k cs t fr hk hs _ => (h.2 k (blk_lt hk) (fun e => hs (e ▸ hg)) (by simp)).trans hk⟩
/-- A post that bars a panic: enough where none comes. -/
def strictQ (Q : Exit → Act → World → Prop) : Exit → Act → World → Prop
  | .panic _, _, _ => False
  | e, a, w => Q e a w
theorem wp_strict {P : Program} {c : Code} {Q : Exit → Act → World → Prop} {a : Act} {w : World} (h : c.wp P (strictQ Q) a w) : c.wp P Q a w :=
  Code.wp_mono (fun e a w h => by cases e <;> first | exact h | exact h.elim) h
theorem strict_normal {Q : Exit → Act → World → Prop} {a : Act} {w : World} (h : Q .normal a w) : strictQ Q .normal a w := h
theorem fin_take {m k : Nat} (h : k < m) : (List.finRange m).take (k + 1) = (List.finRange m).take k ++ [⟨k, h⟩] := by
  rw [List.take_succ_eq_append_getElem (by simpa using h)]
  simp
theorem _root_.Go.World.grownBy_drew (w : World) (r : Option Nat) : w.grownBy w.drew r := ⟨rfl, rfl, rfl, Nat.le_refl _, fun _ _ _ => rfl⟩
def ptrA (gh gp : Nat) : Array Value := #[.pointer (some ⟨gh, 0, none⟩), .pointer (some ⟨gh, 2, none⟩), .pointer (some ⟨gh, 1, none⟩), .pointer (some ⟨gh, 3, none⟩), .pointer (some ⟨gh, 4, none⟩), .pointer (some ⟨gh, 5, none⟩), .pointer (some ⟨gp, 0, none⟩)]
def sizA : Array Value := #[.int .i64 1, .int .i64 1, .int .i64 3, .int .i64 2, .int .i64 2, .int .i64 4, .int .i64 4]
def fsz (i : Fin 7) : Nat := [1, 1, 3, 2, 2, 4, 4][i]
theorem fsz_le (i : Fin 7) : 1 ≤ fsz i ∧ fsz i ≤ 4 := by revert i; decide
def encF (gh gp : Nat) (i : Fin 7) : Array Value := #[(ptrA gh gp)[i]'(i.isLt), (sizA)[i]'(i.isLt)]
abbrev Head8 : Type := Int × Int × Int × Int × Int × Int × Int × Int
def hout (f : Fin 7 → Int) (e : Int) : Head8 := (f 0, f 2, f 1, f 3, f 4, f 5, f 6, e)
def hnone (e : Int) : Head8 := (0, 0, 0, 0, 0, 0, 0, e)
def st6 (W : World) (g : Nat) (v0 v1 v2 v3 v4 v5 : Value) : World := (((((W.setCell ⟨g, 0, none⟩ v0).setCell ⟨g, 1, none⟩ v1).setCell ⟨g, 2, none⟩ v2).setCell ⟨g, 3, none⟩ v3).setCell ⟨g, 4, none⟩ v4).setCell ⟨g, 5, none⟩ v5
theorem st6_blk {W : World} {g : Nat} {u0 u1 u2 u3 u4 u5 : Value} (h : W.heap[g]? = some (.cells #[u0, u1, u2, u3, u4, u5] 23 (0, 0))) (v0 v1 v2 v3 v4 v5 : Value) : (st6 W g v0 v1 v2 v3 v4 v5).heap[g]? = some (.cells #[v0, v1, v2, v3, v4, v5] 23 (0, 0)) := by
  refine blk_put (cs := #[v0, v1, v2, v3, v4, u5]) ?_ 5 _ rfl
  refine blk_put (cs := #[v0, v1, v2, v3, u4, u5]) ?_ 4 _ rfl
  refine blk_put (cs := #[v0, v1, v2, u3, u4, u5]) ?_ 3 _ rfl
  refine blk_put (cs := #[v0, v1, u2, u3, u4, u5]) ?_ 2 _ rfl
  refine blk_put (cs := #[v0, u1, u2, u3, u4, u5]) ?_ 1 _ rfl
  exact blk_put (cs := #[u0, u1, u2, u3, u4, u5]) h 0 _ rfl
theorem st6_keep (W : World) (g : Nat) (v0 v1 v2 v3 v4 v5 : Value) : KeepBut W (st6 W g v0 v1 v2 v3 v4 v5) g none := ((((((KeepBut.refl W g none).set_ 0 v0).set_ 1 v1).set_ 2 v2).set_ 3 v3).set_ 4 v4).set_ 5 v5
theorem st6_below {w W : World} {g : Nat} (h : Below w.heap.size w W) (hg : w.heap.size ≤ g) (v0 v1 v2 v3 v4 v5 : Value) : Below w.heap.size w (st6 W g v0 v1 v2 v3 v4 v5) := below_set (below_set (below_set (below_set (below_set (below_set h hg) hg) hg) hg) hg) hg
def HdrF.T0 : Bool × List (List Nat × List Nat) := (true, [([], []), ([0], [0]), ([1], [1]), ([], []), ([3], [3]), ([4], [4]), ([], []), ([6], [6]), ([7], [7]), ([], []), ([9], [9]), ([10], [10]), ([], []), ([12], [12]), ([13], [13]), ([], []), ([15], [15]), ([16], [16]), ([], []), ([2, 5, 8, 11, 14, 17, 18], [2, 5, 8, 11, 14, 17, 18]), ([19, 0, 1, 2, 3, 4, 5, 6, 7, 8, 9, 10, 11, 12, 13, 14, 15, 16, 17, 18, 19], [19])])
def HdrF.B0 : List Nat := [0, 1, 3, 0, 8, 24, 0, 64, 192, 0, 512, 1536, 0, 4096, 12288, 0, 32768, 98304, 0, 524287, 1048575]
theorem HdrF.tab0 : rtab .any (opsOf Try.f58 0) = HdrF.T0 := by kernel_rfl
theorem HdrF.bits0 : waitsOk HdrF.T0.2 HdrF.B0 = true := by kernel_rfl
/- 0:load>7; 1:nilCheck>8; 2:fieldAddr>9; 3:load>10; 4:nilCheck>11; 5:fieldAddr>12; 6:load>13; 7:nilCheck>14; 8:fieldAddr>15; 9:load>16; 10:nilCheck>17; 11:fieldAddr>18; 12:load>19; 13:nilCheck>20; 14:fieldAddr>21; 15:load>22; 16:nilCheck>23; 17:fieldAddr>24; 18:load>25; 19:buildSlice>26; 20:assign>4 -/
set_option maxHeartbeats 2000000 in
set_option maxRecDepth 100000 in
theorem fields_stops {n : Nat} (hn : 1 ≤ n) (B gh gp : Nat) (S T : Nat → Prop) (w : World)
    (h1 : w.heap[B]? = some (.cells #[.pointer (some ⟨gh, 0, none⟩)] 81 (0, 0))) (h2 : w.heap[B + 1]? = some (.cells #[.pointer (some ⟨gp, 0, none⟩)] 82 (0, 0)))
    (hS : ∀ k, S k → k < w.heap.size) (hT : ¬ T 82 ∧ ¬ T 3) :
    SeqStopsK Fence.wide n Try.prog 58 #[.pointer (some ⟨B, 0, none⟩), .pointer (some ⟨B + 1, 0, none⟩)] (encF gh gp) (TK S T) (fun ys => ys = List.finRange 7) (fun _ => True) 7 w := fun l J Jx W hW hJ hJx hY h0 => by
  refine callsIn_of_wp Try.func58 rfl trivial ?_ rfl
  simp only [Try.ntmps58, List.size_toArray, List.length_cons, List.length_nil, Nat.reduceAdd, Nat.reduceSub, Array.replicate_succ, Array.replicate_zero, List.push_toArray, List.append_toArray, List.nil_append, List.cons_append]
  have k1 : W.cell? ⟨B, 0, none⟩ = some (.pointer (some ⟨gh, 0, none⟩)) := (blk_cell (blk_below h1 hW) 0).trans rfl
  have k2 : W.cell? ⟨B + 1, 0, none⟩ = some (.pointer (some ⟨gp, 0, none⟩)) := (blk_cell (blk_below h2 hW) 0).trans rfl
  have HY := Aside0.mk hY
  have HJ := Aside0.mk hJ
  have hsz := hW.size
  clear hY hJ hJx h1 h2
  gi_wp2
  refine startX_ (m := 21) (S := fun w' => w'.cell? ⟨B, 0, none⟩ = some (.pointer (some ⟨gh, 0, none⟩)) ∧ w'.cell? ⟨B + 1, 0, none⟩ = some (.pointer (some ⟨gp, 0, none⟩))) (ds := [19]) #[false, false, false, false, false, false, false, false, false, false, false, false, false, false, false, false, false, false, false, false, false] (fun _ => trivial) (by kernel_rfl) (by kernel_rfl) rfl rfl ⟨k1, k2⟩ (fun hHeld => ?_); refine with_tabX HdrF.tab0 HdrF.bits0 (fun HT_ HW_ => ?_)
  refine takeX_ (i := 0) (N := (some 7)) (v := ?_) (a' := ?_) #[true, false, false, false, false, false, false, false, false, false, false, false, false, false, false, false, false, false, false, false, false] rfl rfl (take_ofW HT_.out HW_.out (by kernel_rfl)) (fun _ _ _ h => h) (Or.inl ⟨by rfl, ?_⟩) hHeld ?_ ?_
  rotate_left
  · intro w' hS_
    go_simp
    obtain ⟨hS1_, hS2_⟩ := hS_; go_simp; with_reducible rfl
  rotate_left
  · simp only [Act.put, List.setIfInBounds_toArray, List.set_cons_zero, List.set_cons_succ, i64_w, i32_w]
    rfl
  refine pureX_ (i := 1) (N := (some 8)) (v := ?_) (a' := ?_) #[true, true, false, false, false, false, false, false, false, false, false, false, false, false, false, false, false, false, false, false, false] rfl rfl (any_of HT_.out (by kernel_rfl)) (fun _ _ _ h => h) (Or.inl ⟨by rfl, ?_⟩) ?_ ?_
  rotate_left
  · intro w'
    go_simp
    with_reducible rfl
  rotate_left
  · simp only [Act.put, List.setIfInBounds_toArray, List.set_cons_zero, List.set_cons_succ, i64_w, i32_w]
    rfl
  refine pureX_ (i := 2) (N := (some 9)) (v := ?_) (a' := ?_) #[true, true, true, false, false, false, false, false, false, false, false, false, false, false, false, false, false, false, false, false, false] rfl rfl (any_of HT_.out (by kernel_rfl)) (fun _ _ _ h => h) (Or.inl ⟨by rfl, ?_⟩) ?_ ?_
  rotate_left
  · intro w'
    go_simp
    with_reducible rfl
  rotate_left
  · simp only [Act.put, List.setIfInBounds_toArray, List.set_cons_zero, List.set_cons_succ, i64_w, i32_w]
    rfl
  refine takeX_ (i := 3) (N := (some 10)) (v := ?_) (a' := ?_) #[true, true, true, true, false, false, false, false, false, false, false, false, false, false, false, false, false, false, false, false, false] rfl rfl (take_ofW HT_.out HW_.out (by kernel_rfl)) (fun _ _ _ h => h) (Or.inl ⟨by rfl, ?_⟩) hHeld ?_ ?_
  rotate_left
  · intro w' hS_
    go_simp
    obtain ⟨hS1_, hS2_⟩ := hS_; go_simp; with_reducible rfl
  rotate_left
  · simp only [Act.put, List.setIfInBounds_toArray, List.set_cons_zero, List.set_cons_succ, i64_w, i32_w]
    rfl
  refine pureX_ (i := 4) (N := (some 11)) (v := ?_) (a' := ?_) #[true, true, true, true, true, false, false, false, false, false, false, false, false, false, false, false, false, false, false, false, false] rfl rfl (any_of HT_.out (by kernel_rfl)) (fun _ _ _ h => h) (Or.inl ⟨by rfl, ?_⟩) ?_ ?_
  rotate_left
  · intro w'
    go_simp
    with_reducible rfl
  rotate_left
  · simp only [Act.put, List.setIfInBounds_toArray, List.set_cons_zero, List.set_cons_succ, i64_w, i32_w]
    rfl
  refine pureX_ (i := 5) (N := (some 12)) (v := ?_) (a' := ?_) #[true, true, true, true, true, true, false, false, false, false, false, false, false, false, false, false, false, false, false, false, false] rfl rfl (any_of HT_.out (by kernel_rfl)) (fun _ _ _ h => h) (Or.inl ⟨by rfl, ?_⟩) ?_ ?_
  rotate_left
  · intro w'
    go_simp
    with_reducible rfl
  rotate_left
  · simp only [Act.put, List.setIfInBounds_toArray, List.set_cons_zero, List.set_cons_succ, i64_w, i32_w]
    rfl
  refine takeX_ (i := 6) (N := (some 13)) (v := ?_) (a' := ?_) #[true, true, true, true, true, true, true, false, false, false, false, false, false, false, false, false, false, false, false, false, false] rfl rfl (take_ofW HT_.out HW_.out (by kernel_rfl)) (fun _ _ _ h => h) (Or.inl ⟨by rfl, ?_⟩) hHeld ?_ ?_
  rotate_left
  · intro w' hS_
    go_simp
    obtain ⟨hS1_, hS2_⟩ := hS_; go_simp; with_reducible rfl
  rotate_left
  · simp only [Act.put, List.setIfInBounds_toArray, List.set_cons_zero, List.set_cons_succ, i64_w, i32_w]
    rfl
  refine pureX_ (i := 7) (N := (some 14)) (v := ?_) (a' := ?_) #[true, true, true, true, true, true, true, true, false, false, false, false, false, false, false, false, false, false, false, false, false] rfl rfl (any_of HT_.out (by kernel_rfl)) (fun _ _ _ h => h) (Or.inl ⟨by rfl, ?_⟩) ?_ ?_
  rotate_left
  · intro w'
    go_simp
    with_reducible rfl
  rotate_left
  · simp only [Act.put, List.setIfInBounds_toArray, List.set_cons_zero, List.set_cons_succ, i64_w, i32_w]
    rfl
  refine pureX_ (i := 8) (N := (some 15)) (v := ?_) (a' := ?_) #[true, true, true, true, true, true, true, true, true, false, false, false, false, false, false, false, false, false, false, false, false] rfl rfl (any_of HT_.out (by kernel_rfl)) (fun _ _ _ h => h) (Or.inl ⟨by rfl, ?_⟩) ?_ ?_
  rotate_left
  · intro w'
    go_simp
    with_reducible rfl
  rotate_left
  · simp only [Act.put, List.setIfInBounds_toArray, List.set_cons_zero, List.set_cons_succ, i64_w, i32_w]
    rfl
  refine takeX_ (i := 9) (N := (some 16)) (v := ?_) (a' := ?_) #[true, true, true, true, true, true, true, true, true, true, false, false, false, false, false, false, false, false, false, false, false] rfl rfl (take_ofW HT_.out HW_.out (by kernel_rfl)) (fun _ _ _ h => h) (Or.inl ⟨by rfl, ?_⟩) hHeld ?_ ?_
  rotate_left
  · intro w' hS_
    go_simp
    obtain ⟨hS1_, hS2_⟩ := hS_; go_simp; with_reducible rfl
  rotate_left
  · simp only [Act.put, List.setIfInBounds_toArray, List.set_cons_zero, List.set_cons_succ, i64_w, i32_w]
    rfl
  refine pureX_ (i := 10) (N := (some 17)) (v := ?_) (a' := ?_) #[true, true, true, true, true, true, true, true, true, true, true, false, false, false, false, false, false, false, false, false, false] rfl rfl (any_of HT_.out (by kernel_rfl)) (fun _ _ _ h => h) (Or.inl ⟨by rfl, ?_⟩) ?_ ?_
  rotate_left
  · intro w'
    go_simp
    with_reducible rfl
  rotate_left
  · simp only [Act.put, List.setIfInBounds_toArray, List.set_cons_zero, List.set_cons_succ, i64_w, i32_w]
    rfl
  refine pureX_ (i := 11) (N := (some 18)) (v := ?_) (a' := ?_) #[true, true, true, true, true, true, true, true, true, true, true, true, false, false, false, false, false, false, false, false, false] rfl rfl (any_of HT_.out (by kernel_rfl)) (fun _ _ _ h => h) (Or.inl ⟨by rfl, ?_⟩) ?_ ?_
  rotate_left
  · intro w'
    go_simp
    with_reducible rfl
  rotate_left
  · simp only [Act.put, List.setIfInBounds_toArray, List.set_cons_zero, List.set_cons_succ, i64_w, i32_w]
    rfl
  refine takeX_ (i := 12) (N := (some 19)) (v := ?_) (a' := ?_) #[true, true, true, true, true, true, true, true, true, true, true, true, true, false, false, false, false, false, false, false, false] rfl rfl (take_ofW HT_.out HW_.out (by kernel_rfl)) (fun _ _ _ h => h) (Or.inl ⟨by rfl, ?_⟩) hHeld ?_ ?_
  rotate_left
  · intro w' hS_
    go_simp
    obtain ⟨hS1_, hS2_⟩ := hS_; go_simp; with_reducible rfl
  rotate_left
  · simp only [Act.put, List.setIfInBounds_toArray, List.set_cons_zero, List.set_cons_succ, i64_w, i32_w]
    rfl
  refine pureX_ (i := 13) (N := (some 20)) (v := ?_) (a' := ?_) #[true, true, true, true, true, true, true, true, true, true, true, true, true, true, false, false, false, false, false, false, false] rfl rfl (any_of HT_.out (by kernel_rfl)) (fun _ _ _ h => h) (Or.inl ⟨by rfl, ?_⟩) ?_ ?_
  rotate_left
  · intro w'
    go_simp
    with_reducible rfl
  rotate_left
  · simp only [Act.put, List.setIfInBounds_toArray, List.set_cons_zero, List.set_cons_succ, i64_w, i32_w]
    rfl
  refine pureX_ (i := 14) (N := (some 21)) (v := ?_) (a' := ?_) #[true, true, true, true, true, true, true, true, true, true, true, true, true, true, true, false, false, false, false, false, false] rfl rfl (any_of HT_.out (by kernel_rfl)) (fun _ _ _ h => h) (Or.inl ⟨by rfl, ?_⟩) ?_ ?_
  rotate_left
  · intro w'
    go_simp
    with_reducible rfl
  rotate_left
  · simp only [Act.put, List.setIfInBounds_toArray, List.set_cons_zero, List.set_cons_succ, i64_w, i32_w]
    rfl
  refine takeX_ (i := 15) (N := (some 22)) (v := ?_) (a' := ?_) #[true, true, true, true, true, true, true, true, true, true, true, true, true, true, true, true, false, false, false, false, false] rfl rfl (take_ofW HT_.out HW_.out (by kernel_rfl)) (fun _ _ _ h => h) (Or.inl ⟨by rfl, ?_⟩) hHeld ?_ ?_
  rotate_left
  · intro w' hS_
    go_simp
    obtain ⟨hS1_, hS2_⟩ := hS_; go_simp; with_reducible rfl
  rotate_left
  · simp only [Act.put, List.setIfInBounds_toArray, List.set_cons_zero, List.set_cons_succ, i64_w, i32_w]
    rfl
  refine pureX_ (i := 16) (N := (some 23)) (v := ?_) (a' := ?_) #[true, true, true, true, true, true, true, true, true, true, true, true, true, true, true, true, true, false, false, false, false] rfl rfl (any_of HT_.out (by kernel_rfl)) (fun _ _ _ h => h) (Or.inl ⟨by rfl, ?_⟩) ?_ ?_
  rotate_left
  · intro w'
    go_simp
    with_reducible rfl
  rotate_left
  · simp only [Act.put, List.setIfInBounds_toArray, List.set_cons_zero, List.set_cons_succ, i64_w, i32_w]
    rfl
  refine pureX_ (i := 17) (N := (some 24)) (v := ?_) (a' := ?_) #[true, true, true, true, true, true, true, true, true, true, true, true, true, true, true, true, true, true, false, false, false] rfl rfl (any_of HT_.out (by kernel_rfl)) (fun _ _ _ h => h) (Or.inl ⟨by rfl, ?_⟩) ?_ ?_
  rotate_left
  · intro w'
    go_simp
    with_reducible rfl
  rotate_left
  · simp only [Act.put, List.setIfInBounds_toArray, List.set_cons_zero, List.set_cons_succ, i64_w, i32_w]
    rfl
  refine takeX_ (i := 18) (N := (some 25)) (v := ?_) (a' := ?_) #[true, true, true, true, true, true, true, true, true, true, true, true, true, true, true, true, true, true, true, false, false] rfl rfl (take_ofW HT_.out HW_.out (by kernel_rfl)) (fun _ _ _ h => h) (Or.inl ⟨by rfl, ?_⟩) hHeld ?_ ?_
  rotate_left
  · intro w' hS_
    go_simp
    obtain ⟨hS1_, hS2_⟩ := hS_; go_simp; with_reducible rfl
  rotate_left
  · simp only [Act.put, List.setIfInBounds_toArray, List.set_cons_zero, List.set_cons_succ, i64_w, i32_w]
    rfl
  refine lastX_ (i := 19) (N := (some 26)) #[true, true, true, true, true, true, true, true, true, true, true, true, true, true, true, true, true, true, true, true, false] rfl rfl (one_of HT_.out (by kernel_rfl)) (by decide) (fun K hK => ?_)
  go_simp
  refine hK.out _ _ ?_
  clear hK K
  refine normX_ (a' := ?_) ?_ ?_
  rotate_left
  · (try show Act.put _ (some 26) _ = _)
    (try simp only [Act.put, List.setIfInBounds_toArray, List.set_cons_zero, List.set_cons_succ, i64_w, i32_w])
    rfl
  refine pureX_ (i := 20) (N := (some 4)) (v := ?_) (a' := ?_) #[true, true, true, true, true, true, true, true, true, true, true, true, true, true, true, true, true, true, true, true, true] rfl rfl (any_of HT_.out (by kernel_rfl)) (fun _ _ _ h => h) (Or.inl ⟨by rfl, ?_⟩) ?_ ?_
  rotate_left
  · intro w'
    go_simp
    with_reducible rfl
  rotate_left
  · simp only [Act.put, List.setIfInBounds_toArray, List.set_cons_zero, List.set_cons_succ, i64_w, i32_w]
    rfl
  refine doneX_ (done_of HT_.out (by kernel_rfl)) ?_
  gi_wp2
  obtain ⟨W1, hW1⟩ : ∃ W1, W1 = ((W.alloc (.cells (ptrA gh gp) 82)).drew).alloc (.cells sizA 3) := ⟨_, rfl⟩
  have hq1 : W1.heap[W.heap.size]? = some (.cells (ptrA gh gp) 82 (0, 0)) := by rw [hW1]; exact blk_alloc (blk_new W _) _
  have hq2 : W1.heap[W.heap.size + 1]? = some (.cells sizA 3 (0, 0)) := by
    rw [hW1]
    have := blk_new (W.alloc (.cells (ptrA gh gp) 82)).drew (.cells sizA 3)
    rw [show (W.alloc (.cells (ptrA gh gp) 82)).drew.heap.size = W.heap.size + 1 from World.size_alloc _ _] at this
    exact this
  have hJ1 : J [] W1 := by
    rw [hW1]
    have a1 := HJ.out _ _ _ none h0 (World.grownBy_alloc W (.cells (ptrA gh gp) 82) none) (fun r e => by cases e)
    have a2 := HJ.out _ _ _ none a1 (World.grownBy_drew (W.alloc (.cells (ptrA gh gp) 82)) none) (fun r e => by cases e)
    exact HJ.out _ _ _ none a2 (World.grownBy_alloc _ (.cells sizA 3) none) (fun r e => by cases e)
  show Code.wpIn Fence.wide n Try.prog _ _ _ (((W.alloc (.cells (ptrA gh gp) 82)).drew).alloc (.cells sizA 3))
  rw [← hW1]
  clear hW1 h0 k1 k2
  gi_loopw [29] (fun i wr => ∃ k : Nat, k ≤ 7 ∧ i = .int .i64 k ∧ J ((List.finRange 7).take k) wr ∧ wr.heap[W.heap.size]? = some (.cells (ptrA gh gp) 82 (0, 0)) ∧ wr.heap[W.heap.size + 1]? = some (.cells sizA 3 (0, 0))) (fun i _ => 7 - (intOf i).toNat)
  case atStart => exact ⟨0, Nat.zero_le _, rfl, hJ1, hq1, hq2⟩
  case round =>
    clear hq1 hq2 hJ1
    obtain ⟨k, hk, rfl, hJs, hq1, hq2⟩ := hrel
    by_cases hlt : k < 7
    · have hd : decide ((k : Int) < 7) = true := decide_eq_true (by omega)
      have p1 : (0 ≤ (k : Int)) = True := eq_true (by omega)
      have p2 : ((k : Int) < 7) = True := eq_true (by omega)
      obtain ⟨fn, tmps, assign, body, hy, hR⟩ := HY.out _ ⟨k, hlt⟩ _ hJs (by rw [List.length_take, List.length_finRange]; omega)
      have hft := Lib.hid (fin_take hlt)
      have c1 : wr.cell? ⟨W.heap.size, k, none⟩ = some ((ptrA gh gp)[k]'hlt) := (blk_cell hq1 k).trans (Array.getElem?_eq_getElem _)
      have c2 : wr.cell? ⟨W.heap.size + 1, k, none⟩ = some (sizA[k]'hlt) := (blk_cell hq2 k).trans (Array.getElem?_eq_getElem _)
      unfold encF at hy
      generalize (ptrA gh gp)[k]'hlt = va at *
      generalize sizA[k]'hlt = vb at *
      gi_wp2
      refine hR.mono ?_
      rintro e W3 (⟨rfl, hJ3, hk3⟩ | ⟨rfl, hJx3⟩)
      · have hn1 : ¬ S W.heap.size := fun h => by have := hS _ h; omega
        have hn2 : ¬ S (W.heap.size + 1) := fun h => by have := hS _ h; omega
        gi_wp2
        go_roundw
        case rel => exact ⟨k + 1, by omega, by go_num, by rw [hft.out]; exact hJ3, hk3.2 _ _ _ _ hq1 hn1 hT.1, hk3.2 _ _ _ _ hq2 hn2 hT.2⟩
        case measure => simp [intOf]; omega
      · gi_wp2
        refine bodyPost_ret (results_none rfl _ _ _) rfl ?_
        exact ⟨⟨_, rfl⟩, .inr ⟨_, trivial, hJx3⟩⟩
    · obtain rfl : k = 7 := by omega
      have hd : decide (((7 : Nat) : Int) < 7) = false := decide_eq_false (by omega)
      have ht : (List.finRange 7).take 7 = List.finRange 7 := List.take_of_length_le (by simp)
      rw [ht] at hJs
      clear ht
      gi_wp2
      go_end0
      exact ⟨⟨_, rfl⟩, .inl ⟨_, rfl, hJs⟩⟩
set_option maxHeartbeats 1000000 in
set_option maxRecDepth 100000 in
theorem fields (a b : Option Addr) (w : World) : Calls Try.prog 43 #[.pointer a, .pointer b] w fun e w' => e = .returned (.func (.func 58) #[] #[.pointer (some ⟨w.heap.size, 0, none⟩), .pointer (some ⟨w.heap.size + 1, 0, none⟩)]) ∧ w' = (w.alloc (.cells #[.pointer a] 81)).alloc (.cells #[.pointer b] 82) := by
  go_enter Try.func43, Try.ntmps43
  go_wp2
  go_ret
  exact ⟨rfl, rfl⟩
end Go.Proofs.Ythdlikiakegekaa.HdrW
