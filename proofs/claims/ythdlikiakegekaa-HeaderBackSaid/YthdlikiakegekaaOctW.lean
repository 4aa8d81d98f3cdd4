import Derived.Test.YthdlikiakegekaaProg
import Derived.Below
import Derived.Deep.Draws
import Derived.Deep.AppendLies
import Derived.Maps.AppendAt
import Derived.OwnWalk
import Derived.Laws.BytesArg
import Derived.Laws.MakeOwn
import Derived.Laws.OwnMore
import Derived.Deep.OwnRows
import Derived.Tactics
import Derived.Lib.ConvBytes
import Derived.Laws.Slices
import Derived.WalkKit
import Derived.KernelRfl
import Derived.RowKit3
import Derived.Deep.LoopGhost
import Derived.Deep.QuietTactic
import Derived.BigQuiet
import Derived.WideLaws
import Derived.Deep.DeepCutAuto
import Derived.Deep.CutBlock
import Derived.Deep.RegionHeld3
import Derived.Laws.Rows
import Derived.Lib.AppendStr
import Derived.ArgAppend
import Derived.Laws.IdiomCopy
import Derived.OrdersHeld
import Derived.Laws.BitsLemmas
import Derived.RowKit
import Derived.Test.YthdlikiakegekaaWWords
import Derived.Test.YthdlikiakegekaaWLast
import Derived.Test.YthdlikiakegekaaWTab
import Derived.Test.YthdlikiakegekaaWFour
import Derived.Test.YthdlikiakegekaaWQPut
import Derived.Test.YthdlikiakegekaaWApart
import Derived.Test.YthdlikiakegekaaWArr
import Derived.Test.YthdlikiakegekaaWZeros
import Derived.Test.YthdlikiakegekaaWFoot
import Derived.Test.YthdlikiakegekaaWKept
import Derived.Test.YthdlikiakegekaaWShare
import Derived.Test.YthdlikiakegekaaWN
import Derived.Test.YthdlikiakegekaaWFootNe
import Derived.Test.YthdlikiakegekaaWAt
import Derived.Test.YthdlikiakegekaaWEqStruct
import Derived.Test.YthdlikiakegekaaWRepsOne
import Derived.Test.YthdlikiakegekaaWInv
import Derived.Test.YthdlikiakegekaaWInvWords
import Derived.Test.YthdlikiakegekaaWGuard
import Derived.Test.YthdlikiakegekaaWNEv
import Derived.Test.YthdlikiakegekaaWMore
import Derived.Test.YthdlikiakegekaaBldW
import Derived.RegionTactic
import Derived.Lib.Hide
/-! The walks of octet: what is written, and what is read. -/
set_option linter.unusedVariables false
set_option linter.unusedSimpArgs false
namespace Go.Proofs.Ythdlikiakegekaa.OctW
open Go.RowKit Go.Proofs.YthdlikiakegekaaW.PrintWords Go.Proofs.YthdlikiakegekaaW.PrintLast Go.Proofs.YthdlikiakegekaaW.PrintMore
/-- A number's octets, the highest first. -/
def beN (n : Nat) : Nat → List UInt8
  | 0 => []
  | k + 1 => UInt8.ofNat (n / 256 ^ k % 256) :: beN n k
def fits (n k : Int) : Prop := 1 ≤ k ∧ k ≤ 7 ∧ 0 ≤ n ∧ n < 256 ^ k.toNat
instance (n k : Int) : Decidable (fits n k) := by unfold fits; infer_instance
def numL (n k : Int) : List UInt8 := if fits n k then beN n.toNat k.toNat else []
/-- What was written. -/
abbrev Wr (B b : Nat) (l : List UInt8) (w : World) : Prop := Lib.IsBuilderF 76 5 B b (Lib.byteCells l) w
abbrev Kp (b : Nat) (w w' : World) : Prop := Lib.OthersKept 5 (some b) w w'
theorem bears : BldW.Bears 76 := ⟨by kernel_rfl, by decide⟩
theorem pow8 (k : Nat) : (2 : Int) ^ (8 * k) = ((256 ^ k : Nat) : Int) := by
  rw [Int.pow_mul, show (2 : Int) ^ 8 = ((256 : Nat) : Int) from rfl, ← Int.natCast_pow]
theorem shr8 (n k : Nat) : (n : Int) / 2 ^ (8 * k) = ((n / 256 ^ k : Nat) : Int) := by rw [pow8]; rfl
theorem p256 (k : Nat) : (256 : Int) ^ k = ((256 ^ k : Nat) : Int) := (Int.natCast_pow 256 k).symm
theorem fits_iff (n k : Nat) (h1 : 1 ≤ k) (h7 : k ≤ 7) : fits n k ↔ n / 256 ^ k = 0 := by
  have hp : 0 < 256 ^ k := Nat.pow_pos (by decide)
  rw [Nat.div_eq_zero_iff]
  unfold fits
  rw [Int.toNat_natCast]
  constructor
  · rintro ⟨_, _, _, h⟩; rw [p256] at h; generalize 256 ^ k = x at *; exact .inr (by omega)
  · rintro (h | h)
    · omega
    · exact ⟨by omega, by omega, by omega, by rw [p256]; generalize 256 ^ k = x at *; omega⟩
theorem beN_length (n k : Nat) : (beN n k).length = k := by
  induction k with
  | zero => rfl
  | succ k ih => show (beN n k).length + 1 = _; rw [ih]
theorem beN_get (n k : Nat) : ∀ i, i < k → (beN n k)[i]? = some (UInt8.ofNat (n / 256 ^ (k - 1 - i) % 256)) := by
  induction k with
  | zero => intro i h; omega
  | succ k ih =>
    intro i h
    cases i with
    | zero => rfl
    | succ i => show (beN n k)[i]? = _; rw [ih i (by omega)]; rw [show k - 1 - i = k + 1 - 1 - (i + 1) by omega]
theorem beN_take (n k m : Nat) (h : m < k) : (beN n k).take (k - m) = (beN n k).take (k - (m + 1)) ++ [UInt8.ofNat (n / 256 ^ m % 256)] := by
  have e : k - m = (k - (m + 1)) + 1 := by omega
  rw [e, List.take_add_one, beN_get n k _ (by omega)]
  have e2 : k - 1 - (k - (m + 1)) = m := by omega
  rw [e2]; rfl
theorem byteCells_snoc (l : List UInt8) (c : Nat) (h : c < 256) : Lib.byteCells l ++ [.int .u8 (c : Int)] = Lib.byteCells (l ++ [UInt8.ofNat c]) := by
  simp only [Lib.byteCells, List.map_append, List.map_cons, List.map_nil]
  rw [UInt8.toNat_ofNat', Nat.mod_eq_of_lt h]
theorem byteCells_append (l : List UInt8) (s : ByteArray) : Lib.byteCells l ++ Lib.strCells s = Lib.byteCells (l ++ s.data.toList) := by
  simp [Lib.byteCells, Lib.strCells]
def OctNum.T4 : Bool × List (List Nat × List Nat) := (true, [([], []), ([0], [0]), ([1], [1]), ([], []), ([], []), ([4], [4]), ([3, 5], [3, 5]), ([6], [6]), ([2, 7], [2, 7])])
def OctNum.B4 : List Nat := [0, 1, 3, 0, 0, 16, 56, 120, 255]
theorem OctNum.tab4 : rtab .any (opsOf Try.f44 4) = OctNum.T4 := by kernel_rfl
theorem OctNum.bits4 : waitsOk OctNum.T4.2 OctNum.B4 = true := by kernel_rfl
/- 0:move>34; 1:nilCheck>35; 2:fieldAddr>36; 3:move>37; 4:move>38; 5:binOp>39; 6:binOp>40; 7:convert>41; 8:call>42 -/

set_option maxHeartbeats 1000000 in
set_option maxRecDepth 100000 in
theorem num_no (a : Option Addr) (n k : Int) (w : World) (h : ¬ (1 ≤ k ∧ k ≤ 7 ∧ 0 ≤ n) ∨ a = none) :
    Calls Try.prog 44 #[.pointer a, .int .i64 n, .int .i64 k] w fun e w' => e = .returned (.tuple #[]) ∧ w' = w := by
  rcases a with _ | a
  · clear h
    go_enter Try.func44, Try.ntmps44
    go_wp2
    refine bodyPost_ret (results_none rfl _ _ _) rfl ?_
    exact ⟨rfl, rfl⟩
  · by_cases h1 : k < 1
    · clear h
      go_enter Try.func44, Try.ntmps44
      go_wp2
      refine bodyPost_ret (results_none rfl _ _ _) rfl ?_
      exact ⟨rfl, rfl⟩
    · by_cases h2 : k > 7
      · clear h
        go_enter Try.func44, Try.ntmps44
        go_wp2
        refine bodyPost_ret (results_none rfl _ _ _) rfl ?_
        exact ⟨rfl, rfl⟩
      · by_cases h3 : n < 0
        · clear h
          go_enter Try.func44, Try.ntmps44
          go_wp2
          refine bodyPost_ret (results_none rfl _ _ _) rfl ?_
          exact ⟨rfl, rfl⟩
        · exact absurd h (by simp; omega)

set_option maxHeartbeats 1000000 in
set_option maxRecDepth 100000 in
theorem num_some (B b : Nat) (n k : Nat) (l : List UInt8) (w : World) (hk1 : 1 ≤ k) (hk7 : k ≤ 7) (hn : n < 9223372036854775808) (hw : Wr B b l w) (hlen : l.length + k ≤ 140737488355328) (hBw : B ≤ w.heap.size) :
    Calls Try.prog 44 #[.pointer (some ⟨b, 0, none⟩), .int .i64 n, .int .i64 k] w fun e w' => e = .returned (.tuple #[]) ∧ Wr B b (l ++ numL n k) w' ∧ Below B w w' ∧ Kp b w w' := by
  go_enter Try.func44, Try.ntmps44
  go_wp2_with fail
  · rename_i hc
    refine bodyPost_ret (results_none rfl _ _ _) rfl ?_
    refine ⟨rfl, ?_, Below.refl B _, Lib.OthersKept.refl _ _ _⟩
    have : ¬ fits n k := by
      rw [fits_iff n k hk1 hk7]
      rw [shr8] at hc
      generalize n / 256 ^ k = x at *
      omega
    rw [numL, if_neg this, List.append_nil]; exact hw
  · rename_i hc
    have hf : fits n k := by
      rw [fits_iff n k hk1 hk7]
      rw [shr8] at hc
      generalize n / 256 ^ k = x at *
      omega
    clear hc
    have hnum : numL n k = beN n k := by rw [numL, if_pos hf, Int.toNat_natCast, Int.toNat_natCast]
    clear hf
    go_loopw [6] (fun v wr => ∃ j : Nat, j ≤ k ∧ v = .int .i64 ((j : Int) - 1) ∧ Wr B b (l ++ (beN n k).take (k - j)) wr ∧ Below B w wr ∧ Kp b w wr) (fun v _ => (intOf v + 1).toNat)
    case atStart => exact ⟨k, Nat.le_refl _, by go_num, by simpa using hw, Below.refl B _, Lib.OthersKept.refl _ _ _⟩
    case round =>
      obtain ⟨j, hj, rfl, hW, hB, hK⟩ := hrel
      rcases j with _ | m
      · go_wp2
        go_end0
        refine ⟨rfl, ?_, hB, hK⟩
        rw [hnum]
        rwa [Nat.sub_zero, List.take_of_length_le (by rw [beN_length]; exact Nat.le_refl _)] at hW
      · rw [show ((m + 1 : Nat) : Int) - 1 = (m : Int) by omega]
        have hlt : (l ++ (beN n k).take (k - (m + 1))).length + 1 ≤ 140737488355328 := by rw [List.length_append, List.length_take, beN_length]; omega
        generalize hL : l ++ (beN n k).take (k - (m + 1)) = L at *
        have hLn : l ++ (beN n k).take (k - m) = L ++ [UInt8.ofNat (n / 256 ^ m % 256)] := by
          rw [beN_take n k m (by omega), ← List.append_assoc, hL]
        clear hL
        have h8 : wrap64 (8 * (m : Int)) = ((8 * m : Nat) : Int) := by unfold wrap64; omega
        have hsh : Op.shift .shr .i64 (n : Int) .i64 ((8 * m : Nat) : Int) = pure (.int .i64 ((n : Int) / 2 ^ (8 * m))) := by
          exact (shift_shr_i64 (x := (n : Int)) (yk := .i64) (y := ((8 * m : Nat) : Int)) (by omega) (by omega)).trans rfl
        have H8 := Lib.hid h8
        clear h8
        go_wp2_with fail
        refine start_ (n := 9) (S := fun w' => Wr B b L w' ∧ Below B w w' ∧ Kp b w w') (ds := [8]) #[false, false, false, false, false, false, false, false, false] (by kernel_rfl) rfl rfl ⟨hW, Below.drew hB, hK.drew⟩ (fun hHeld => ?_); refine with_tabW OctNum.tab4 OctNum.bits4 (fun HT_ HW_ => ?_)
        refine pure_ (i := 0) (N := (some 34)) (v := ?_) (a' := ?_) #[true, false, false, false, false, false, false, false, false] rfl rfl (any_of HT_.out (by kernel_rfl)) (fun _ _ _ h => h) (Or.inl ⟨by rfl, ?_⟩) ?_ ?_
        rotate_left
        · intro w'
          go_simp
          with_reducible rfl
        rotate_left
        · simp only [Act.put, List.setIfInBounds_toArray, List.set_cons_zero, List.set_cons_succ, i64_w, i32_w]
          rfl
        refine pure_ (i := 1) (N := (some 35)) (v := ?_) (a' := ?_) #[true, true, false, false, false, false, false, false, false] rfl rfl (any_of HT_.out (by kernel_rfl)) (fun _ _ _ h => h) (Or.inl ⟨by rfl, ?_⟩) ?_ ?_
        rotate_left
        · intro w'
          go_simp
          with_reducible rfl
        rotate_left
        · simp only [Act.put, List.setIfInBounds_toArray, List.set_cons_zero, List.set_cons_succ, i64_w, i32_w]
          rfl
        refine pure_ (i := 2) (N := (some 36)) (v := ?_) (a' := ?_) #[true, true, true, false, false, false, false, false, false] rfl rfl (any_of HT_.out (by kernel_rfl)) (fun _ _ _ h => h) (Or.inl ⟨by rfl, ?_⟩) ?_ ?_
        rotate_left
        · intro w'
          go_simp
          with_reducible rfl
        rotate_left
        · simp only [Act.put, List.setIfInBounds_toArray, List.set_cons_zero, List.set_cons_succ, i64_w, i32_w]
          rfl
        refine pure_ (i := 3) (N := (some 37)) (v := ?_) (a' := ?_) #[true, true, true, true, false, false, false, false, false] rfl rfl (any_of HT_.out (by kernel_rfl)) (fun _ _ _ h => h) (Or.inl ⟨by rfl, ?_⟩) ?_ ?_
        rotate_left
        · intro w'
          go_simp
          with_reducible rfl
        rotate_left
        · simp only [Act.put, List.setIfInBounds_toArray, List.set_cons_zero, List.set_cons_succ, i64_w, i32_w]
          rfl
        refine pure_ (i := 4) (N := (some 38)) (v := ?_) (a' := ?_) #[true, true, true, true, true, false, false, false, false] rfl rfl (any_of HT_.out (by kernel_rfl)) (fun _ _ _ h => h) (Or.inl ⟨by rfl, ?_⟩) ?_ ?_
        rotate_left
        · intro w'
          go_simp
          with_reducible rfl
        rotate_left
        · simp only [Act.put, List.setIfInBounds_toArray, List.set_cons_zero, List.set_cons_succ, i64_w, i32_w]
          rfl
        refine pure_ (i := 5) (N := (some 39)) (v := ?_) (a' := ?_) #[true, true, true, true, true, true, false, false, false] rfl rfl (any_of HT_.out (by kernel_rfl)) (fun _ _ _ h => h) (Or.inl ⟨by rfl, ?_⟩) ?_ ?_
        rotate_left
        · intro w'
          go_simp
          with_reducible rfl
        rotate_left
        · simp only [Act.put, List.setIfInBounds_toArray, List.set_cons_zero, List.set_cons_succ, i64_w, i32_w]
          rfl
        refine pure_ (i := 6) (N := (some 40)) (v := ?_) (a' := ?_) #[true, true, true, true, true, true, true, false, false] rfl rfl (any_of HT_.out (by kernel_rfl)) (fun _ _ _ h => h) (Or.inl ⟨by rfl, ?_⟩) ?_ ?_
        rotate_left
        · intro w'
          go_simp
          rw [H8.out, hsh]
          rfl
        rotate_left
        · simp only [Act.put, List.setIfInBounds_toArray, List.set_cons_zero, List.set_cons_succ, i64_w, i32_w]
          rfl
        refine pure_ (i := 7) (N := (some 41)) (v := ?_) (a' := ?_) #[true, true, true, true, true, true, true, true, false] rfl rfl (any_of HT_.out (by kernel_rfl)) (fun _ _ _ h => h) (Or.inl ⟨by rfl, ?_⟩) ?_ ?_
        rotate_left
        · intro w'
          go_simp
          with_reducible rfl
        rotate_left
        · simp only [Act.put, List.setIfInBounds_toArray, List.set_cons_zero, List.set_cons_succ, i64_w, i32_w]
          rfl
        refine last_ (i := 8) (N := (some 42)) #[true, true, true, true, true, true, true, true, true] rfl rfl (one_of HT_.out (by kernel_rfl)) (by decide) (fun K hK => ?_)
        refine goes_ Try.func59 (by kernel_rfl) rfl #[.pointer (some ⟨b, 0, none⟩), .int .u8 ((n : Int) / 2 ^ (8 * m) % 256)] (by rfl) rfl rfl (by (try simp only [List.map_toArray, List.map_cons, List.map_nil]); first | done | rfl) ?_
        refine (BldW.writeByte _ bears B b _ _ _ hHeld.1 (by rw [Lib.byteCells_length]; omega) (Nat.le_trans hBw hHeld.2.1.size)).mono ?_
        rintro e w2 ⟨rfl, hA2, hb2, hk2⟩
        refine ⟨_, rfl, ?_⟩
        refine hK.out _ _ ?_
        clear hK K
        refine norm_ (a' := ?_) ?_ ?_
        rotate_left
        · show Act.put _ (some 42) _ = _
          simp only [Act.put, List.setIfInBounds_toArray, List.set_cons_zero, List.set_cons_succ, i64_w, i32_w]
          rfl
        refine done_ (done_of HT_.out (by kernel_rfl)) ?_
        go_wp2
        go_roundw
        case rel =>
          refine ⟨m, by omega, by go_num, ?_, hHeld.2.1.trans hb2, hHeld.2.2.trans hk2⟩
          have e : (n : Int) / 2 ^ (8 * m) % 256 = ((n / 256 ^ m % 256 : Nat) : Int) := by rw [shr8]; generalize n / 256 ^ m = x; omega
          rw [e, byteCells_snoc _ _ (Nat.mod_lt _ (by decide)), ← hLn] at hA2
          exact .inr hA2
        case measure => simp [intOf]

set_option maxHeartbeats 1000000 in
set_option maxRecDepth 100000 in
theorem text_no (s : ByteArray) (w : World) :
    Calls Try.prog 42 #[.pointer none, .string s] w fun e w' => e = .returned (.tuple #[]) ∧ w' = w := by
  go_enter Try.func42, Try.ntmps42
  go_wp2
  go_end0
  exact ⟨rfl, rfl⟩

set_option maxHeartbeats 1000000 in
set_option maxRecDepth 100000 in
theorem text_some (B b : Nat) (s : ByteArray) (l : List UInt8) (w : World) (hw : Wr B b l w) (hlen : l.length + s.size ≤ 140737488355328) (hBw : B ≤ w.heap.size) :
    Calls Try.prog 42 #[.pointer (some ⟨b, 0, none⟩), .string s] w fun e w' => e = .returned (.tuple #[]) ∧ Wr B b (l ++ s.data.toList) w' ∧ Below B w w' ∧ Kp b w w' := by
  go_enter Try.func42, Try.ntmps42
  go_wp2_with (go_at_call 55; refine (BldW.writeString _ bears B b _ s _ hw (by rw [Lib.byteCells_length]; exact hlen) hBw).mono ?_; rintro e w1 ⟨rfl, hA, hb, hk⟩)
  go_end0
  rw [byteCells_append] at hA
  exact ⟨rfl, .inr hA, hb, hk⟩

set_option maxHeartbeats 1000000 in
set_option maxRecDepth 100000 in
theorem string_no (w : World) :
    Calls Try.prog 46 #[.pointer none] w fun e w' => e = .returned (.string ⟨#[]⟩) ∧ w' = w := by
  go_enter Try.func46, Try.ntmps46
  go_wp2
  go_ret
  exact ⟨rfl, rfl⟩

set_option maxHeartbeats 1000000 in
set_option maxRecDepth 100000 in
theorem string_some (B b : Nat) (l : List UInt8) (w : World) (hw : Wr B b l w) (hBw : B ≤ w.heap.size) :
    Calls Try.prog 46 #[.pointer (some ⟨b, 0, none⟩)] w fun e w' => e = .returned (.string ⟨l.toArray⟩) ∧ Wr B b l w' ∧ Below B w w' ∧ Kp b w w' := by
  go_enter Try.func46, Try.ntmps46
  go_wp2_with (go_at_call 56; refine (BldW.string _ bears B b l _ hw hBw).mono ?_; rintro e w1 ⟨rfl, hA, hb, hk⟩)
  go_ret
  exact ⟨rfl, hA, hb, hk⟩
/-- A new writer. -/
theorem wr_new (B : Nat) (w : World) (hB : B ≤ w.heap.size) : Wr B w.heap.size [] (w.alloc (.cells #[.pointer none, .slice none 0 0] 76)) := by
  refine .inl ⟨hB, .slice none 0 0, by simpa using heap_alloc_new w _, World.ownsRowF_nil _ _ _ _, by simp [Value.ownBlock]⟩
theorem Wr.step {B b : Nat} {l : List UInt8} {w w' : World} (h : Wr B b l w) (hs : ∀ k o, w.heap[k]? = some o → (k = b ∨ ∃ cur fz, o = .cells cur 5 fz) → w'.heap[k]? = some o) : Wr B b l w' := by
  have at_ : ∀ p, Lib.BuilderAtF 76 5 B b p (Lib.byteCells l) w → Lib.BuilderAtF 76 5 B b p (Lib.byteCells l) w' := by
    rintro p ⟨hB, v, hb, ⟨ho1, ho2⟩, hne⟩
    refine ⟨hB, v, hs b _ hb (.inl rfl), ⟨ho1, ?_⟩, hne⟩
    rcases ho2 with ho | ⟨g, cap, cur, fz, hv, hg, hc, r⟩
    · exact .inl ho
    · exact .inr ⟨g, cap, cur, fz, hv, hg, hs g _ hc (.inr ⟨cur, fz, rfl⟩), r⟩
  rcases h with h | h
  · exact .inl (at_ _ h)
  · exact .inr (at_ _ h)
theorem Wr.below {B b : Nat} {l : List UInt8} {w w' : World} (h : Wr B b l w) (hb : Below w.heap.size w w') : Wr B b l w' :=
  h.step fun k o hk _ => by rw [hb.block k (blk_lt hk)]; exact hk
theorem Wr.ne {B b g : Nat} {l : List UInt8} {w : World} (h : Wr B b l w) {cs : Array Value} {t : TypeId} {fz : Nat × Nat} (hg : w.heap[g]? = some (.cells cs t fz)) (ht : t ≠ 76) : g ≠ b := by
  rintro rfl
  rcases h with ⟨_, v, hb, _⟩ | ⟨_, v, hb, _⟩ <;>
    (rw [hg] at hb; exact ht (by injection hb with hb; injection hb))
theorem Wr.keep {B b g : Nat} {l : List UInt8} {w w' : World} (h : Wr B b l w) {cs : Array Value} {t : TypeId} {fz : Nat × Nat} (hk : KeepBut w w' g none) (hg : w.heap[g]? = some (.cells cs t fz)) (ht : t ≠ 5) (ht2 : t ≠ 76) : Wr B b l w' :=
  h.step fun k o hk' hor => by
    have hgb := h.ne hg ht2
    have hne : k ≠ g := by
      rintro rfl
      rcases hor with h1 | ⟨cur, fz', h1⟩
      · exact hgb h1
      · subst h1; rw [hg] at hk'; exact ht (by injection hk' with hk'; injection hk')
    rw [hk.2 k (blk_lt hk') hne (by simp)]; exact hk'
theorem Kp.cells {b g : Nat} {w w' : World} (h : Kp b w w') {cs : Array Value} {t : TypeId} {fz : Nat × Nat} (hg : w.heap[g]? = some (.cells cs t fz)) (hgb : g ≠ b) (ht : t ≠ 5) : w'.heap[g]? = some (.cells cs t fz) :=
  h g _ hg (fun e => hgb (Option.some.inj e)) (fun c fz' e => ht (by injection e))
end Go.Proofs.Ythdlikiakegekaa.OctW
