-- Written for this claim by a program of the session (myprint.py), out of the translation's own print; Lean checks it.
import Derived.Test.YtkidbmhmjoogiaaSx0
import Derived.Test.YtkidbmhmjoogiaaSx1
namespace Go.Proofs.Ytkidbmhmjoogiaa.S
open Go.RowKit Go.Proofs.YtkidbmhmjoogiaaW.PrintWords Go.Proofs.YtkidbmhmjoogiaaW.PrintLast Go.Proofs.YtkidbmhmjoogiaaW.PrintMore
attribute [local go_sem] max2_int min2_int max_two min_two max_three min_three max_four min_four   -- for this text's walks alone
set_option linter.unusedVariables false
set_option linter.unusedSimpArgs false

/-! ### splicerlaw03_CrcTurned: function 5 -/
section
open CrcLem CrcW
def CrcTurnedR.T10 : Bool × List (List Nat × List Nat) := (true, [([], []), ([], []), ([], []), ([1, 2], [1, 2]), ([3], [3]), ([], []), ([], []), ([], []), ([6, 7], [6, 7]), ([8], [8]), ([5, 9], [5, 9]), ([10], [10]), ([], []), ([], []), ([12, 13], [12, 13]), ([14], [14]), ([15], [15]), ([11, 16], [11, 16]), ([0, 4, 0, 1, 2, 3, 4, 5, 6, 7, 8, 9, 10, 11, 12, 13, 14, 15, 16, 17], [0, 4]), ([18, 17, 0, 1, 2, 3, 4, 5, 6, 7, 8, 9, 10, 11, 12, 13, 14, 15, 16, 17], [17, 18])])
def CrcTurnedR.B10 : List Nat := [0, 0, 0, 6, 14, 0, 0, 0, 192, 448, 992, 2016, 0, 0, 12288, 28672, 61440, 131040, 262143, 524287]
theorem CrcTurnedR.tab10 : rtab .any (opsOf Try.f5 10) = CrcTurnedR.T10 := by kernel_rfl
theorem CrcTurnedR.bits10 : waitsOk CrcTurnedR.T10.2 CrcTurnedR.B10 = true := by kernel_rfl
/- 0:move>47; 1:move>48; 2:move>49; 3:binOp>50; 4:binOp>51; 5:move>52; 6:move>53; 7:move>54; 8:binOp>55; 9:binOp>56; 10:indexAddr>57; 11:load>58; 12:move>59; 13:move>60; 14:binOp>61; 15:binOp>62; 16:binOp>63; 17:binOp>64; 18:indexAddr>65; 19:store>None -/
/-- Is a number another than 0? -/
def CrcTurnedR.nz (n : Nat) : Bool := n != 0
/-- A row of bytes, cell by cell, none of them frozen. -/
def CrcTurnedR.Row (w : World) (g n : Nat) (l : List UInt8) : Prop := ∀ j, j < n → w.cell? ⟨g, j, none⟩ = some (.int .u8 (l.getD j 0).toNat) ∧ w.frozen? ⟨g, j, none⟩ = false
theorem CrcTurnedR.Row.set {w : World} {g n : Nat} {l : List UInt8} (h : CrcTurnedR.Row w g n l) (i x : Nat) (hi : i < n) (hl : l.length = n) (hx : x < 256) :
    CrcTurnedR.Row (w.setCell ⟨g, i, none⟩ (.int .u8 (x : Int))) g n (l.set i (UInt8.ofNat x)) := by
  intro j hj
  rw [World.frozen?_setCell]
  refine ⟨?_, (h j hj).2⟩
  by_cases e : i = j
  · subst e
    rw [World.cell?_setCell_same (h := (h i hi).1)]
    have hxx : (UInt8.ofNat x).toNat = x := by simp; omega
    simp [List.getD, hl, hi, hxx]
  · rw [World.cell?_setCell_other (h := by intro h'; exact e (by injection h')), (h j hj).1]
    simp [List.getD, e]
theorem CrcTurnedR.Row.below {w w1 : World} {g n : Nat} {l : List UInt8} (h : CrcTurnedR.Row w g n l) (hg : g < w.heap.size) (hb : Below w.heap.size w w1) : CrcTurnedR.Row w1 g n l :=
  fun j hj => ⟨(hb.cell (p := ⟨g, j, none⟩) hg).trans (h j hj).1, (hb.frozen (p := ⟨g, j, none⟩) hg).trans (h j hj).2⟩
theorem CrcTurnedR.nz_step (b k : Nat) (h : b / 2 ^ k % 2 = 1) : CrcTurnedR.nz (b % 2 ^ (k + 1)) = true := by
  unfold CrcTurnedR.nz
  rw [mod_bit, if_pos h]
  have := Nat.one_le_two_pow (n := k)
  simp
theorem CrcTurnedR.num_step (l : List UInt8) (s : Nat) (F k b i j c p x : Nat) (hil : i < l.length) (hi : i = (F + k) / 8) (hj : j = (F + k) % 8) (hc : c = (l.getD i 0).toNat) (hp : p = 2 ^ j) (hx : x = c ^^^ p) (hx256 : x < 256)
    (hn : num l = s ^^^ 2 ^ F * (b % 2 ^ k)) (hb : b / 2 ^ k % 2 = 1) : num (l.set i (UInt8.ofNat x)) = s ^^^ 2 ^ F * (b % 2 ^ (k + 1)) := by
  rw [mod_bit, if_pos hb, low_bit _ _ (Nat.mod_lt _ (Nat.two_pow_pos k)), two_mul_xor, ← Nat.xor_assoc, ← hn, ← Nat.pow_add]
  have e : F + k = 8 * i + j := by omega
  rw [e]
  refine num_set l i j hil _ ?_
  have hxx : (UInt8.ofNat x).toNat = x := by simp; omega
  rw [hxx, hx, hc, hp]
  simp [List.getD, hil]
theorem CrcTurnedR.nums (l : List UInt8) : strOfNums (l.map fun c => (c.toNat : Int)) = ⟨l.toArray⟩ := by
  unfold strOfNums
  simp [List.map_map, Function.comp_def]
theorem CrcTurnedR.back {w : World} {g n cap : Nat} {l : List UInt8} (h : CrcTurnedR.Row w g n l) (hl : l.length = n) :
    Sem.run Try.prog (Go.convert 32 9 (.slice (some ⟨g, 0, none⟩) n cap)) w = .ok (.string ⟨l.toArray⟩) w := by
  have := run_convert_bytes_arg (P := Try.prog) w 32 5 Try.underlying32 Try.underlying5 g 0 n cap (l.map fun c => (c.toNat : Int)) (by simpa using hl)
    (fun i hi => by
      have := (h i hi).1
      rw [Nat.zero_add, this]
      simp [List.getD, hl, hi]) 9 Try.underlying9
  rw [CrcTurnedR.nums] at this
  exact this
theorem CrcTurnedR.idx (F k i j : Nat) (hi : i = (F + k) / 8) (hj : j = (F + k) % 8) (h : F + k ≤ 4800) :
    ∃ m : Nat, wrap64 ((F : Int) + (k : Int)) = (m : Int) ∧ (m : Int).tdiv 8 = (i : Int) ∧ wrap64 (i : Int) = (i : Int) ∧ (m : Int).tmod 8 = (j : Int) := by
  refine ⟨F + k, ?_, ?_, ?_, ?_⟩
  · unfold wrap64; omega
  · rw [Int.tdiv_eq_ediv_of_nonneg (by omega)]; omega
  · unfold wrap64; omega
  · rw [Int.tmod_eq_emod_of_nonneg (by omega)]; omega
theorem CrcTurnedR.conv (w : World) (s : ByteArray) : ∃ W1 cap, Sem.run Try.prog (Go.convert 9 32 (.string s)) w = .ok (.slice (some ⟨w.heap.size, 0, none⟩) s.size cap) W1 ∧
    CrcTurnedR.Row W1 w.heap.size s.size s.data.toList ∧ Below w.heap.size w W1 ∧ w.heap.size < W1.heap.size := by
  refine ⟨_, _, Lib.run_convert_string_bytes w 9 32 5 s Try.underlying9 Try.underlying32 Try.underlying5, ?_, ?_, ?_⟩
  · intro j hj
    refine ⟨Lib.bytesWorld_cell w 5 s j hj, ?_⟩
    unfold World.frozen?
    rw [Lib.bytesWorld_at_new]
    have : s.size ≤ (Lib.bytesCells w 5 s).size := by
      unfold Lib.bytesCells
      rw [Array.size_append, Array.size_map]
      exact Nat.le_add_right _ _
    simp; omega
  · exact ⟨rfl, rfl, rfl, by rw [Lib.bytesWorld_size]; omega, fun i hi => Lib.bytesWorld_at_old w 5 s i hi⟩
  · rw [Lib.bytesWorld_size]; omega
set_option maxHeartbeats 2000000 in
set_option maxRecDepth 100000 in
theorem CrcTurnedR.run (s : ByteArray) (a : Nat) (bits : Nat) (w : World) (h0 : 0 < s.size) (hs : s.size ≤ 600) (ha : a < 65536) (hb : bits < 4294967296) :
    Calls Try.prog 5 #[.string s, .int .u16 a, .int .u32 bits] w fun e w' => e = .returned (.bool true) ∧ Below w.heap.size w w' := by
  obtain ⟨W1, cap, hcv, hrow, hB, hg⟩ := CrcTurnedR.conv w s
  obtain ⟨g, hgw⟩ : ∃ g, g = w.heap.size := ⟨_, rfl⟩
  rw [← hgw] at hcv hrow hg
  obtain ⟨F, hF⟩ : ∃ F, F = a % (8 * s.size) := ⟨_, rfl⟩
  have hFl : F < 8 * s.size := by rw [hF]; exact Nat.mod_lt _ (by omega)
  have hFi : (a : Int) % (8 * (s.size : Int)) = (F : Int) := by rw [hF]; simp
  have HG := Lib.hid hgw
  have HF := Lib.hid hF
  have HR := Lib.hid hrow
  clear hgw hF hrow
  have hz : ((s.size : Int) == 0) = false := by rw [beq_eq_false_iff_ne]; omega
  have hd : decide (600 < (s.size : Int)) = false := by rw [decide_eq_false_iff_not]; omega
  go_enter Try.func5, Try.ntmps5
  go_wp2_with fail
  clear hcv hz hd
  rw [hFi]
  clear hFi
  go_loopw [10, 9] (fun v10 v9 wr => ∃ (k : Nat) (l : List UInt8), k ≤ 32 ∧ F + k ≤ 8 * s.size ∧ v10 = .int .i64 k ∧ v9 = .bool (CrcTurnedR.nz (bits % 2 ^ k)) ∧ Hid (l.length = s.size) ∧ Hid (num l = num s.data.toList ^^^ 2 ^ F * (bits % 2 ^ k)) ∧
    Hid (CrcTurnedR.Row wr g s.size l) ∧ Below w.heap.size w wr ∧ g < wr.heap.size) (fun v10 _ _ => 32 - (intOf v10).toNat)
  case atStart => exact ⟨0, s.data.toList, by decide, by omega, rfl, by simp [CrcTurnedR.nz, Nat.mod_one], Lib.hid (by simp), Lib.hid (by simp [Nat.mod_one]), HR, hB, hg⟩
  case round =>
    obtain ⟨k, l, hk, hFk, rfl, rfl, hl, hn, hr, hB1, hg1⟩ := hrel
    by_cases hgo : k < 32 ∧ F + k < 8 * s.size
    · obtain ⟨hk32, hFlt⟩ := hgo
      have c1 : decide ((F : Int) + (k : Int) < 8 * (s.size : Int)) = true := decide_eq_true (by omega)
      have hand := and_one (bits / 2 ^ k) (Nat.lt_of_le_of_lt (Nat.div_le_self _ _) hb)
      have hcast : ((bits / 2 ^ k : Nat) : Int) = (bits : Int) / 2 ^ k := by simp
      rw [hcast] at hand
      clear hcast
      by_cases hbit : bits / 2 ^ k % 2 = 1
      · rw [hbit] at hand
        have hand' : (Go.bits .and .u32 ((bits : Int) / 2 ^ k) 1 == 1) = true := by rw [hand]; rfl
        have HB := Lib.hid hbit
        clear hand hbit
        go_wp2_with fail
        obtain ⟨i, hi⟩ : ∃ i, i = (F + k) / 8 := ⟨_, rfl⟩
        obtain ⟨j, hj⟩ : ∃ j, j = (F + k) % 8 := ⟨_, rfl⟩
        have hin : i < s.size := by omega
        have hj8 : j < 8 := by omega
        have hin' : (i : Int) < (s.size : Int) := by omega
        obtain ⟨hcl, hfz⟩ := hr.out i hin
        obtain ⟨c, hc⟩ : ∃ c, c = (l.getD i 0).toNat := ⟨_, rfl⟩
        rw [← hc] at hcl
        have hc256 : c < 256 := by rw [hc]; exact byte_lt _
        obtain ⟨p, hp⟩ : ∃ p, p = 2 ^ j := ⟨_, rfl⟩
        have hp256 : p < 256 := by
          rw [hp]; exact Nat.lt_of_lt_of_le (Nat.pow_lt_pow_right (by decide) hj8) (by decide)
        have hpw : IntKind.u8.wrap (2 ^ j) = (p : Int) := by
          have e : ((p : Nat) : Int) = 2 ^ j := by rw [hp]; simp
          rw [IntKind.wrap_u8, ← e]; omega
        obtain ⟨x, hx⟩ : ∃ x, x = c ^^^ p := ⟨_, rfl⟩
        have hxw : Go.bits .xor .u8 (c : Int) (p : Int) = (x : Int) := by rw [hx]; exact xor_u8 c p hc256 hp256
        have HX := Lib.hid hx
        have HP := Lib.hid hp
        clear hx hp
        have HC := Lib.hid hc
        have HI := Lib.hid hi
        have HJ := Lib.hid hj
        obtain ⟨m, hs1, hs2, hs3, hs4⟩ := CrcTurnedR.idx F k i j hi hj (by omega)
        clear hc hi hj
        refine start_ (n := 20) (S := fun w' => w'.cell? ⟨g, i, none⟩ = some (.int .u8 (c : Int)) ∧ w'.frozen? ⟨g, i, none⟩ = false) (ds := [19]) #[false, false, false, false, false, false, false, false, false, false, false, false, false, false, false, false, false, false, false, false] (by kernel_rfl) rfl rfl ⟨hcl, hfz⟩ (fun hHeld => ?_); refine with_tabW CrcTurnedR.tab10 CrcTurnedR.bits10 (fun HT_ HW_ => ?_)
        refine pure_ (i := 0) (N := (some 47)) (v := ?_) (a' := ?_) #[true, false, false, false, false, false, false, false, false, false, false, false, false, false, false, false, false, false, false, false] rfl rfl (any_of HT_.out (by kernel_rfl)) (fun _ _ _ h => h) (Or.inl ⟨by rfl, ?_⟩) ?_ ?_
        rotate_left
        · intro w'
          go_simp
          with_reducible rfl
        rotate_left
        · simp only [Act.put, List.setIfInBounds_toArray, List.set_cons_zero, List.set_cons_succ, i64_w, i32_w]
          rfl
        refine pure_ (i := 1) (N := (some 48)) (v := ?_) (a' := ?_) #[true, true, false, false, false, false, false, false, false, false, false, false, false, false, false, false, false, false, false, false] rfl rfl (any_of HT_.out (by kernel_rfl)) (fun _ _ _ h => h) (Or.inl ⟨by rfl, ?_⟩) ?_ ?_
        rotate_left
        · intro w'
          go_simp
          with_reducible rfl
        rotate_left
        · simp only [Act.put, List.setIfInBounds_toArray, List.set_cons_zero, List.set_cons_succ, i64_w, i32_w]
          rfl
        refine pure_ (i := 2) (N := (some 49)) (v := ?_) (a' := ?_) #[true, true, true, false, false, false, false, false, false, false, false, false, false, false, false, false, false, false, false, false] rfl rfl (any_of HT_.out (by kernel_rfl)) (fun _ _ _ h => h) (Or.inl ⟨by rfl, ?_⟩) ?_ ?_
        rotate_left
        · intro w'
          go_simp
          with_reducible rfl
        rotate_left
        · simp only [Act.put, List.setIfInBounds_toArray, List.set_cons_zero, List.set_cons_succ, i64_w, i32_w]
          rfl
        refine pure_ (i := 3) (N := (some 50)) (v := ?_) (a' := ?_) #[true, true, true, true, false, false, false, false, false, false, false, false, false, false, false, false, false, false, false, false] rfl rfl (any_of HT_.out (by kernel_rfl)) (fun _ _ _ h => h) (Or.inl ⟨by rfl, ?_⟩) ?_ ?_
        rotate_left
        · intro w'
          go_simp
          with_reducible rfl
        rotate_left
        · simp only [Act.put, List.setIfInBounds_toArray, List.set_cons_zero, List.set_cons_succ, i64_w, i32_w]
          rfl
        refine pure_ (i := 4) (N := (some 51)) (v := ?_) (a' := ?_) #[true, true, true, true, true, false, false, false, false, false, false, false, false, false, false, false, false, false, false, false] rfl rfl (any_of HT_.out (by kernel_rfl)) (fun _ _ _ h => h) (Or.inl ⟨by rfl, ?_⟩) ?_ ?_
        rotate_left
        · intro w'
          go_simp
          with_reducible rfl
        rotate_left
        · simp only [Act.put, List.setIfInBounds_toArray, List.set_cons_zero, List.set_cons_succ, i64_w, i32_w]
          rfl
        refine pure_ (i := 5) (N := (some 52)) (v := ?_) (a' := ?_) #[true, true, true, true, true, true, false, false, false, false, false, false, false, false, false, false, false, false, false, false] rfl rfl (any_of HT_.out (by kernel_rfl)) (fun _ _ _ h => h) (Or.inl ⟨by rfl, ?_⟩) ?_ ?_
        rotate_left
        · intro w'
          go_simp
          with_reducible rfl
        rotate_left
        · simp only [Act.put, List.setIfInBounds_toArray, List.set_cons_zero, List.set_cons_succ, i64_w, i32_w]
          rfl
        refine pure_ (i := 6) (N := (some 53)) (v := ?_) (a' := ?_) #[true, true, true, true, true, true, true, false, false, false, false, false, false, false, false, false, false, false, false, false] rfl rfl (any_of HT_.out (by kernel_rfl)) (fun _ _ _ h => h) (Or.inl ⟨by rfl, ?_⟩) ?_ ?_
        rotate_left
        · intro w'
          go_simp
          with_reducible rfl
        rotate_left
        · simp only [Act.put, List.setIfInBounds_toArray, List.set_cons_zero, List.set_cons_succ, i64_w, i32_w]
          rfl
        refine pure_ (i := 7) (N := (some 54)) (v := ?_) (a' := ?_) #[true, true, true, true, true, true, true, true, false, false, false, false, false, false, false, false, false, false, false, false] rfl rfl (any_of HT_.out (by kernel_rfl)) (fun _ _ _ h => h) (Or.inl ⟨by rfl, ?_⟩) ?_ ?_
        rotate_left
        · intro w'
          go_simp
          with_reducible rfl
        rotate_left
        · simp only [Act.put, List.setIfInBounds_toArray, List.set_cons_zero, List.set_cons_succ, i64_w, i32_w]
          rfl
        refine pure_ (i := 8) (N := (some 55)) (v := ?_) (a' := ?_) #[true, true, true, true, true, true, true, true, true, false, false, false, false, false, false, false, false, false, false, false] rfl rfl (any_of HT_.out (by kernel_rfl)) (fun _ _ _ h => h) (Or.inl ⟨by rfl, ?_⟩) ?_ ?_
        rotate_left
        · intro w'
          go_simp
          with_reducible rfl
        rotate_left
        · simp only [Act.put, List.setIfInBounds_toArray, List.set_cons_zero, List.set_cons_succ, i64_w, i32_w]
          rfl
        refine pure_ (i := 9) (N := (some 56)) (v := ?_) (a' := ?_) #[true, true, true, true, true, true, true, true, true, true, false, false, false, false, false, false, false, false, false, false] rfl rfl (any_of HT_.out (by kernel_rfl)) (fun _ _ _ h => h) (Or.inl ⟨by rfl, ?_⟩) ?_ ?_
        rotate_left
        · intro w'
          go_simp
          with_reducible rfl
        rotate_left
        · simp only [Act.put, List.setIfInBounds_toArray, List.set_cons_zero, List.set_cons_succ, i64_w, i32_w]
          rfl
        refine pure_ (i := 10) (N := (some 57)) (v := ?_) (a' := ?_) #[true, true, true, true, true, true, true, true, true, true, true, false, false, false, false, false, false, false, false, false] rfl rfl (any_of HT_.out (by kernel_rfl)) (fun _ _ _ h => h) (Or.inl ⟨by rfl, ?_⟩) ?_ ?_
        rotate_left
        · intro w'
          go_simp
          with_reducible rfl
        rotate_left
        · simp only [Act.put, List.setIfInBounds_toArray, List.set_cons_zero, List.set_cons_succ, i64_w, i32_w]
          rfl
        refine pure_ (i := 12) (N := (some 59)) (v := ?_) (a' := ?_) #[true, true, true, true, true, true, true, true, true, true, true, false, true, false, false, false, false, false, false, false] rfl rfl (any_of HT_.out (by kernel_rfl)) (fun _ _ _ h => h) (Or.inl ⟨by rfl, ?_⟩) ?_ ?_
        rotate_left
        · intro w'
          go_simp
          with_reducible rfl
        rotate_left
        · simp only [Act.put, List.setIfInBounds_toArray, List.set_cons_zero, List.set_cons_succ, i64_w, i32_w]
          rfl
        refine pure_ (i := 13) (N := (some 60)) (v := ?_) (a' := ?_) #[true, true, true, true, true, true, true, true, true, true, true, false, true, true, false, false, false, false, false, false] rfl rfl (any_of HT_.out (by kernel_rfl)) (fun _ _ _ h => h) (Or.inl ⟨by rfl, ?_⟩) ?_ ?_
        rotate_left
        · intro w'
          go_simp
          with_reducible rfl
        rotate_left
        · simp only [Act.put, List.setIfInBounds_toArray, List.set_cons_zero, List.set_cons_succ, i64_w, i32_w]
          rfl
        refine pure_ (i := 14) (N := (some 61)) (v := ?_) (a' := ?_) #[true, true, true, true, true, true, true, true, true, true, true, false, true, true, true, false, false, false, false, false] rfl rfl (any_of HT_.out (by kernel_rfl)) (fun _ _ _ h => h) (Or.inl ⟨by rfl, ?_⟩) ?_ ?_
        rotate_left
        · intro w'
          go_simp
          with_reducible rfl
        rotate_left
        · simp only [Act.put, List.setIfInBounds_toArray, List.set_cons_zero, List.set_cons_succ, i64_w, i32_w]
          rfl
        refine pure_ (i := 15) (N := (some 62)) (v := ?_) (a' := ?_) #[true, true, true, true, true, true, true, true, true, true, true, false, true, true, true, true, false, false, false, false] rfl rfl (any_of HT_.out (by kernel_rfl)) (fun _ _ _ h => h) (Or.inl ⟨by rfl, ?_⟩) ?_ ?_
        rotate_left
        · intro w'
          go_simp
          with_reducible rfl
        rotate_left
        · simp only [Act.put, List.setIfInBounds_toArray, List.set_cons_zero, List.set_cons_succ, i64_w, i32_w]
          rfl
        refine pure_ (i := 16) (N := (some 63)) (v := ?_) (a' := ?_) #[true, true, true, true, true, true, true, true, true, true, true, false, true, true, true, true, true, false, false, false] rfl rfl (any_of HT_.out (by kernel_rfl)) (fun _ _ _ h => h) (Or.inl ⟨by rfl, ?_⟩) ?_ ?_
        rotate_left
        · intro w'
          go_simp
          with_reducible rfl
        rotate_left
        · simp only [Act.put, List.setIfInBounds_toArray, List.set_cons_zero, List.set_cons_succ, i64_w, i32_w]
          rfl
        refine take_ (i := 11) (N := (some 58)) (v := ?_) (a' := ?_) #[true, true, true, true, true, true, true, true, true, true, true, true, true, true, true, true, true, false, false, false] rfl rfl (take_ofW HT_.out HW_.out (by kernel_rfl)) (fun _ _ _ h => h) (Or.inl ⟨by rfl, ?_⟩) hHeld ?_ ?_
        rotate_left
        · intro w' hS_
          go_simp
          obtain ⟨hS1, hS2⟩ := hS_; go_simp; with_reducible rfl
        rotate_left
        · simp only [Act.put, List.setIfInBounds_toArray, List.set_cons_zero, List.set_cons_succ, i64_w, i32_w]
          rfl
        refine pure_ (i := 17) (N := (some 64)) (v := ?_) (a' := ?_) #[true, true, true, true, true, true, true, true, true, true, true, true, true, true, true, true, true, true, false, false] rfl rfl (any_of HT_.out (by kernel_rfl)) (fun _ _ _ h => h) (Or.inl ⟨by rfl, ?_⟩) ?_ ?_
        rotate_left
        · intro w'
          go_simp
          with_reducible rfl
        rotate_left
        · simp only [Act.put, List.setIfInBounds_toArray, List.set_cons_zero, List.set_cons_succ, i64_w, i32_w]
          rfl
        refine pure_ (i := 18) (N := (some 65)) (v := ?_) (a' := ?_) #[true, true, true, true, true, true, true, true, true, true, true, true, true, true, true, true, true, true, true, false] rfl rfl (any_of HT_.out (by kernel_rfl)) (fun _ _ _ h => h) (Or.inl ⟨by rfl, ?_⟩) ?_ ?_
        rotate_left
        · intro w'
          go_simp
          with_reducible rfl
        rotate_left
        · simp only [Act.put, List.setIfInBounds_toArray, List.set_cons_zero, List.set_cons_succ, i64_w, i32_w]
          rfl
        refine last_ (i := 19) (N := none) #[true, true, true, true, true, true, true, true, true, true, true, true, true, true, true, true, true, true, true, true] rfl rfl (one_of HT_.out (by kernel_rfl)) (by decide) (fun K hK => ?_)
        go_simp
        refine hK.out _ _ ?_
        clear hK K
        refine done_ (done_of HT_.out (by kernel_rfl)) ?_
        clear hs1 hs2 hs3 hs4 hpw hxw hcl hfz hHeld
        go_wp2
        go_roundw
        case rel =>
          have hil : i < l.length := by rw [hl.out]; exact hin
          have hx256 : x < 256 := by rw [HX.out]; exact Nat.xor_lt_two_pow (n := 8) hc256 hp256
          refine ⟨k + 1, l.set i (UInt8.ofNat x), by omega, by omega, by go_num, by rw [CrcTurnedR.nz_step bits k HB.out], Lib.hid (by rw [List.length_set]; exact hl.out), Lib.hid (CrcTurnedR.num_step l _ F k bits i j c p x hil HI.out HJ.out HC.out HP.out HX.out hx256 hn.out HB.out), Lib.hid (hr.out.set i x hin hl.out hx256), ?_, ?_⟩
          · exact (hB1.setCell (p := ⟨g, i, none⟩) (Nat.le_of_eq HG.out.symm) _).drew
          · show g < (wr.setCell _ _).heap.size
            rw [World.size_setCell]; exact hg1
        case measure => simp [intOf]; omega
      · have hbit' : bits / 2 ^ k % 2 = 0 := by omega
        rw [hbit'] at hand
        have hand' : (Go.bits .and .u32 ((bits : Int) / 2 ^ k) 1 == 1) = false := by rw [hand]; rfl
        have HB := Lib.hid hbit
        clear hand hbit hbit'
        go_wp2
        go_roundw
        case rel => exact ⟨k + 1, l, by omega, by omega, by go_num, by rw [mod_bit, if_neg HB.out], hl, Lib.hid (by rw [mod_bit, if_neg HB.out]; exact hn.out), hr, hB1, hg1⟩
        case measure => simp [intOf]; omega
    · obtain ⟨D, hD⟩ : ∃ D, D = bits % 2 ^ k := ⟨_, rfl⟩
      have hDlt : D < 4294967296 := by rw [hD]; exact Nat.lt_of_le_of_lt (Nat.mod_le _ _) hb
      have hsum := burst l s.data.toList (by rw [hl.out]; rfl) F D (by rw [hl.out]; omega) hDlt (by rw [hD]; exact hn.out) 0
      rw [← hD]
      obtain ⟨S, hS⟩ : ∃ S : ByteArray, S = ⟨l.toArray⟩ := ⟨_, rfl⟩
      have hSl : S.data.toList = l := by rw [hS]
      have hSs : S.size ≤ 140737488351232 := by
        have : S.size = l.length := by rw [hS]; rfl
        rw [this, hl.out]; omega
      rw [← hSl] at hsum
      have hX := sumN_lt 0 S.data.toList (by decide)
      have hTo := fun (W : World) (b : Nat) (h : TabAt W b) => sum_calls b S W hSs h
      have hTs := fun (W : World) (b : Nat) (h : TabAt W b) => sum_calls b s W (by omega) h
      generalize sumN 0 S.data.toList = X at *
      generalize sumN 0 s.data.toList = Y at *
      have HTo := Lib.hid hTo
      have HTs := Lib.hid hTs
      have HS := Lib.hid hS
      clear hTo hTs hS hSl hD hSs
      have hcb : ∀ W : World, Below wr.heap.size wr W → Sem.run Try.prog (Go.convert 32 9 (.slice (some ⟨g, 0, none⟩) s.size cap)) W = .ok (.string S) W := fun W hW => by
        rw [HS.out]; exact CrcTurnedR.back (hr.out.below hg1 hW) hl.out
      have HCB := Lib.hid hcb
      clear hcb
      by_cases hk : k < 32
      all_goals
        have q1 : decide ((k : Int) < 32) = decide (k < 32) := decide_eq_decide.2 (by omega)
        have q2 : k < 32 → decide ((F : Int) + (k : Int) < 8 * (s.size : Int)) = false := fun h => decide_eq_false (by omega)
        by_cases hD0 : D = 0
        · have hXY := hsum.2 hD0
          subst hXY
          have hnz : CrcTurnedR.nz D = false := by rw [hD0]; rfl
          rw [hnz]
          clear hsum hD0 hnz
          first
            | (have q3 := q2 hk; clear q1 q2 hgo)
            | (have q3 : decide ((k : Int) < 32) = false := by rw [q1]; exact decide_eq_false hk
               clear q1 q2 hgo)
          go_wp2_with (first | (go_at_call 13; refine (make_calls _).mono ?_; rintro e w2 ⟨b, rfl, hT, hb2⟩; have hc2 := HCB.out w2 hb2) | (go_at_call 17; first | (refine (HTo.out _ b hT).mono ?_; rintro e w3 ⟨rfl, n3, rfl⟩) | (refine (HTs.out _ b (by exact hT)).mono ?_; rintro e w4 ⟨rfl, n4, rfl⟩)) | (go_at_call 12; refine (splicerlaw03_awake.run _).mono ?_; rintro e w7 ⟨rfl, hb7⟩))
          go_ret
          exact ⟨rfl, below_step (by repeat (first | exact below_step hB1 hb2 | apply pw_below_drewN)) hb7⟩
        · have hne : ¬ X = Y := fun h => hD0 (hsum.1 h)
          have hnz : CrcTurnedR.nz D = true := by simp [CrcTurnedR.nz, hD0]
          have z1 : (((X : Nat) : Int) == ((Y : Nat) : Int)) = false := beq_eq_false_iff_ne.2 (by omega)
          have z2 : (((X : Nat) : Int) != ((Y : Nat) : Int)) = true := by rw [bne_iff_ne]; omega
          rw [hnz]
          clear hsum hD0 hnz hne
          first
            | (have q3 := q2 hk; clear q1 q2 hgo)
            | (have q3 : decide ((k : Int) < 32) = false := by rw [q1]; exact decide_eq_false hk
               clear q1 q2 hgo)
          go_wp2_with (first | (go_at_call 13; refine (make_calls _).mono ?_; rintro e w2 ⟨b, rfl, hT, hb2⟩; have hc2 := HCB.out w2 hb2) | (go_at_call 17; first | (refine (HTo.out _ b hT).mono ?_; rintro e w3 ⟨rfl, n3, rfl⟩) | (refine (HTs.out _ b (by exact hT)).mono ?_; rintro e w4 ⟨rfl, n4, rfl⟩)) | (go_at_call 12; refine (splicerlaw03_awake.run _).mono ?_; rintro e w7 ⟨rfl, hb7⟩))
          go_ret
          exact ⟨rfl, below_step (by repeat (first | exact below_step hB1 hb2 | apply pw_below_drewN)) hb7⟩
set_option maxHeartbeats 1000000 in
set_option maxRecDepth 100000 in
theorem CrcTurnedR.short (s : ByteArray) (a : Int) (c : Int) (w : World) (hs : s.size = 0 ∨ 600 < s.size) :
    Calls Try.prog 5 #[.string s, .int .u16 a, .int .u32 c] w fun e w' => e = .returned (.bool true) ∧ Below w.heap.size w w' := by
  by_cases h0 : s.size = 0
  · have z0 : ((s.size : Int) == 0) = true := beq_iff_eq.2 (by omega)
    clear hs
    have H0 := Lib.hid h0
    clear h0
    go_enter Try.func5, Try.ntmps5
    go_wp2_with (go_at_call 12; refine (splicerlaw03_awake.run _).mono ?_; rintro e w1 ⟨rfl, hb⟩)
    go_ret
    exact ⟨rfl, hb⟩
  · have z0 : ((s.size : Int) == 0) = false := beq_eq_false_iff_ne.2 (by omega)
    have z1 : 600 < (s.size : Int) := by omega
    clear hs h0
    go_enter Try.func5, Try.ntmps5
    go_wp2_with (go_at_call 12; refine (splicerlaw03_awake.run _).mono ?_; rintro e w1 ⟨rfl, hb⟩)
    go_ret
    exact ⟨rfl, hb⟩
def splicerlaw03_CrcTurned.Pure : Prop := True
theorem splicerlaw03_CrcTurned.walk (_P : splicerlaw03_CrcTurned.Pure) (a0 : ByteArray) (a1 : Int) (a2 : Int) (w : World) (w0 : a0.size ≤ 140737488351232) (w1 : (Lit.int .u16 a1).wf = true) (w2 : (Lit.int .u32 a2).wf = true) :
    Calls Try.prog 5 #[.string a0, .int .u16 a1, .int .u32 a2] w fun e w' => e = .returned (.bool true) ∧ Below w.heap.size w w' := by
  have b1 := bounds_u16 w1
  have b2 := bounds_u32 w2
  by_cases h : a0.size = 0 ∨ 600 < a0.size
  · exact CrcTurnedR.short a0 a1 a2 w h
  · obtain ⟨n, rfl⟩ := Int.eq_ofNat_of_zero_le b1.1
    obtain ⟨c, rfl⟩ := Int.eq_ofNat_of_zero_le b2.1
    exact CrcTurnedR.run a0 n c w (by omega) (by omega) (by omega) (by omega)
end

/-! ### num_Mod: function 19 -/
def num_Mod.f (a0 : Int) (a1 : Int) : Option (Int × Int) := if a1 < 1 then (some (0, 0)) else (if a1 = 0 then (none) else (if (Int.tmod a0 a1) < 0 then (if a0 < 0 then (if (wrap64 ((Int.tmod a0 a1) + a1)) > 0 then (some (wrap64 ((wrap64 (Int.tdiv a0 a1)) - 1), wrap64 ((Int.tmod a0 a1) + a1))) else (some (wrap64 (Int.tdiv a0 a1), wrap64 ((Int.tmod a0 a1) + a1)))) else (some (wrap64 (Int.tdiv a0 a1), wrap64 ((Int.tmod a0 a1) + a1)))) else (if a0 < 0 then (if (Int.tmod a0 a1) > 0 then (some (wrap64 ((wrap64 (Int.tdiv a0 a1)) - 1), Int.tmod a0 a1)) else (some (wrap64 (Int.tdiv a0 a1), Int.tmod a0 a1))) else (some (wrap64 (Int.tdiv a0 a1), Int.tmod a0 a1)))))
set_option maxHeartbeats 8000000 in
set_option maxRecDepth 100000 in
theorem num_Mod.calls (a0 : Int) (a1 : Int) (r1 : Int) (r2 : Int) (w : World) (h : num_Mod.f a0 a1 = some (r1, r2)) :
    Calls Try.prog 19 #[.int .i64 a0, .int .i64 a1] w fun e w' => e = .returned (.tuple #[.int .i64 r1, .int .i64 r2]) ∧ Drawn0 w w' := by
  have H : (if a1 < 1 then (some (0, 0)) else (if a1 = 0 then (none) else (if (Int.tmod a0 a1) < 0 then (if a0 < 0 then (if (wrap64 ((Int.tmod a0 a1) + a1)) > 0 then (some (wrap64 ((wrap64 (Int.tdiv a0 a1)) - 1), wrap64 ((Int.tmod a0 a1) + a1))) else (some (wrap64 (Int.tdiv a0 a1), wrap64 ((Int.tmod a0 a1) + a1)))) else (some (wrap64 (Int.tdiv a0 a1), wrap64 ((Int.tmod a0 a1) + a1)))) else (if a0 < 0 then (if (Int.tmod a0 a1) > 0 then (some (wrap64 ((wrap64 (Int.tdiv a0 a1)) - 1), Int.tmod a0 a1)) else (some (wrap64 (Int.tdiv a0 a1), Int.tmod a0 a1))) else (some (wrap64 (Int.tdiv a0 a1), Int.tmod a0 a1)))))) = some (r1, r2) := h
  clear h
  by_cases c3 : a1 < 1
  · rw [if_pos c3] at H
    have c3b0 : decide (a1 < 1) = true := decide_eq_true c3
    clear c3
    simp only [Option.some.injEq, Prod.mk.injEq] at H
    obtain ⟨rfl, rfl⟩ := H
    go_enter Try.func19, Try.ntmps19
    go_wp2
    go_ret2
    exact ⟨by first | rfl | (simp; done) | (simp [*]; done), by repeat (first | exact Drawn0.refl _ | apply Drawn0.step)⟩
  · rw [if_neg c3] at H
    have c3b0 : decide (a1 < 1) = false := decide_eq_false c3
    clear c3
    by_cases c4 : a1 = 0
    · rw [if_pos c4] at H
      exact absurd H (by simp)
    · rw [if_neg c4] at H
      have c4b0 : (a1 == 0) = false := beq_eq_false_iff_ne.mpr c4
      have c4b1 : (a1 != 0) = true := bne_iff_ne.mpr c4
      by_cases c5 : (Int.tmod a0 a1) < 0
      · rw [if_pos c5] at H
        have c5b0 : decide ((Int.tmod a0 a1) < 0) = true := decide_eq_true c5
        clear c5
        by_cases c6 : a0 < 0
        · rw [if_pos c6] at H
          have c6b0 : decide (a0 < 0) = true := decide_eq_true c6
          clear c6
          by_cases c7 : (wrap64 ((Int.tmod a0 a1) + a1)) > 0
          · rw [if_pos c7] at H
            have c7b0 : decide (0 < (wrap64 ((Int.tmod a0 a1) + a1))) = true := decide_eq_true c7
            clear c7
            simp only [Option.some.injEq, Prod.mk.injEq] at H
            obtain ⟨rfl, rfl⟩ := H
            go_enter Try.func19, Try.ntmps19
            go_wp2
            go_ret2
            exact ⟨by first | rfl | (simp; done) | (simp [*]; done), by repeat (first | exact Drawn0.refl _ | apply Drawn0.step)⟩
          · rw [if_neg c7] at H
            have c7b0 : decide (0 < (wrap64 ((Int.tmod a0 a1) + a1))) = false := decide_eq_false c7
            clear c7
            simp only [Option.some.injEq, Prod.mk.injEq] at H
            obtain ⟨rfl, rfl⟩ := H
            go_enter Try.func19, Try.ntmps19
            go_wp2
            go_ret2
            exact ⟨by first | rfl | (simp; done) | (simp [*]; done), by repeat (first | exact Drawn0.refl _ | apply Drawn0.step)⟩
        · rw [if_neg c6] at H
          have c6b0 : decide (a0 < 0) = false := decide_eq_false c6
          clear c6
          simp only [Option.some.injEq, Prod.mk.injEq] at H
          obtain ⟨rfl, rfl⟩ := H
          go_enter Try.func19, Try.ntmps19
          go_wp2
          go_ret2
          exact ⟨by first | rfl | (simp; done) | (simp [*]; done), by repeat (first | exact Drawn0.refl _ | apply Drawn0.step)⟩
      · rw [if_neg c5] at H
        have c5b0 : decide ((Int.tmod a0 a1) < 0) = false := decide_eq_false c5
        clear c5
        by_cases c8 : a0 < 0
        · rw [if_pos c8] at H
          have c8b0 : decide (a0 < 0) = true := decide_eq_true c8
          clear c8
          by_cases c9 : (Int.tmod a0 a1) > 0
          · rw [if_pos c9] at H
            have c9b0 : decide (0 < (Int.tmod a0 a1)) = true := decide_eq_true c9
            clear c9
            simp only [Option.some.injEq, Prod.mk.injEq] at H
            obtain ⟨rfl, rfl⟩ := H
            go_enter Try.func19, Try.ntmps19
            go_wp2
            go_ret2
            exact ⟨by first | rfl | (simp; done) | (simp [*]; done), by repeat (first | exact Drawn0.refl _ | apply Drawn0.step)⟩
          · rw [if_neg c9] at H
            have c9b0 : decide (0 < (Int.tmod a0 a1)) = false := decide_eq_false c9
            clear c9
            simp only [Option.some.injEq, Prod.mk.injEq] at H
            obtain ⟨rfl, rfl⟩ := H
            go_enter Try.func19, Try.ntmps19
            go_wp2
            go_ret2
            exact ⟨by first | rfl | (simp; done) | (simp [*]; done), by repeat (first | exact Drawn0.refl _ | apply Drawn0.step)⟩
        · rw [if_neg c8] at H
          have c8b0 : decide (a0 < 0) = false := decide_eq_false c8
          clear c8
          simp only [Option.some.injEq, Prod.mk.injEq] at H
          obtain ⟨rfl, rfl⟩ := H
          go_enter Try.func19, Try.ntmps19
          go_wp2
          go_ret2
          exact ⟨by first | rfl | (simp; done) | (simp [*]; done), by repeat (first | exact Drawn0.refl _ | apply Drawn0.step)⟩

/-! ### splicerref01_Mod: function 20 -/
def splicerref01_Mod.f (a0 : Int) (a1 : Int) : Option (Int × Int) := if a1 < 1 then (some (0, 0)) else (if a1 = 0 then (none) else (if (Int.tmod a0 a1) < 0 then (some (wrap64 ((wrap64 (Int.tdiv a0 a1)) - 1), wrap64 ((Int.tmod a0 a1) + a1))) else (some (wrap64 (Int.tdiv a0 a1), Int.tmod a0 a1))))
set_option maxHeartbeats 8000000 in
set_option maxRecDepth 100000 in
theorem splicerref01_Mod.calls (a0 : Int) (a1 : Int) (r1 : Int) (r2 : Int) (w : World) (h : splicerref01_Mod.f a0 a1 = some (r1, r2)) :
    Calls Try.prog 20 #[.int .i64 a0, .int .i64 a1] w fun e w' => e = .returned (.tuple #[.int .i64 r1, .int .i64 r2]) ∧ Drawn0 w w' := by
  have H : (if a1 < 1 then (some (0, 0)) else (if a1 = 0 then (none) else (if (Int.tmod a0 a1) < 0 then (some (wrap64 ((wrap64 (Int.tdiv a0 a1)) - 1), wrap64 ((Int.tmod a0 a1) + a1))) else (some (wrap64 (Int.tdiv a0 a1), Int.tmod a0 a1))))) = some (r1, r2) := h
  clear h
  by_cases c3 : a1 < 1
  · rw [if_pos c3] at H
    have c3b0 : decide (a1 < 1) = true := decide_eq_true c3
    clear c3
    simp only [Option.some.injEq, Prod.mk.injEq] at H
    obtain ⟨rfl, rfl⟩ := H
    go_enter Try.func20, Try.ntmps20
    go_wp2
    repeat (go_quiet (fail); try go_wp2)
    go_ret2
    exact ⟨by first | rfl | (simp; done) | (simp [*]; done), by repeat (first | exact Drawn0.refl _ | apply Drawn0.step)⟩
  · rw [if_neg c3] at H
    have c3b0 : decide (a1 < 1) = false := decide_eq_false c3
    clear c3
    by_cases c4 : a1 = 0
    · rw [if_pos c4] at H
      exact absurd H (by simp)
    · rw [if_neg c4] at H
      have c4b0 : (a1 == 0) = false := beq_eq_false_iff_ne.mpr c4
      have c4b1 : (a1 != 0) = true := bne_iff_ne.mpr c4
      by_cases c5 : (Int.tmod a0 a1) < 0
      · rw [if_pos c5] at H
        have c5b0 : decide ((Int.tmod a0 a1) < 0) = true := decide_eq_true c5
        clear c5
        simp only [Option.some.injEq, Prod.mk.injEq] at H
        obtain ⟨rfl, rfl⟩ := H
        go_enter Try.func20, Try.ntmps20
        go_wp2
        repeat (go_quiet (fail); try go_wp2)
        go_ret2
        exact ⟨by first | rfl | (simp; done) | (simp [*]; done), by repeat (first | exact Drawn0.refl _ | apply Drawn0.step)⟩
      · rw [if_neg c5] at H
        have c5b0 : decide ((Int.tmod a0 a1) < 0) = false := decide_eq_false c5
        clear c5
        simp only [Option.some.injEq, Prod.mk.injEq] at H
        obtain ⟨rfl, rfl⟩ := H
        go_enter Try.func20, Try.ntmps20
        go_wp2
        repeat (go_quiet (fail); try go_wp2)
        go_ret2
        exact ⟨by first | rfl | (simp; done) | (simp [*]; done), by repeat (first | exact Drawn0.refl _ | apply Drawn0.step)⟩

/-! ### num_Sat: function 21 -/
def num_Sat.f (a0 : Int) : Option (Int) := some (mn (mx a0 (-32768)) 32767)
set_option maxHeartbeats 8000000 in
set_option maxRecDepth 100000 in
theorem num_Sat.calls (a0 : Int) (r : Int) (w : World) (h : num_Sat.f a0 = some r) :
    Calls Try.prog 21 #[.int .i64 a0] w fun e w' => e = .returned (.int .i64 r) ∧ Below w.heap.size w w' := by
  have HB := Aside0.mk (Below.refl w.heap.size w)
  have H : (some (mn (mx a0 (-32768)) 32767)) = some r := h
  clear h
  obtain ⟨ji2, hji2⟩ : ∃ j_ : Int, (mx a0 (-32768)) = j_ := ⟨_, rfl⟩
  replace H : (some (mn (ji2) 32767)) = some r := by first | (rw [hji2] at H; exact H) | (simp only [hji2] at H ⊢; exact H)
  have hji2_ : (if a0 < (-32768) then (-32768) else a0) = ji2 := hji2
  obtain ⟨ji3, hji3⟩ : ∃ j_ : Int, (mn (ji2) 32767) = j_ := ⟨_, rfl⟩
  replace H : (some ji3) = some r := by first | (rw [hji3] at H; exact H) | (simp only [hji3] at H ⊢; exact H)
  have hji3_ : (if 32767 < (ji2) then 32767 else (ji2)) = ji3 := hji3
  obtain rfl := Option.some.inj H
  go_enter Try.func21, Try.ntmps21
  go_wp2
  go_ret
  exact ⟨by first | rfl | (simp [errW_none, errW_some] <;> rfl) | (simp only [← hji2, ← hji3]; first | rfl | (simp [errW_none, errW_some] <;> rfl)) | (simp [*, errW_none, errW_some] <;> rfl), by repeat (first | (with_reducible first | exact HB.out | apply below_alloc | apply pw_below_drewN | apply below_drew1) | exact HB.out)⟩

/-! ### splicerref01_Sat: function 22 -/
def splicerref01_Sat.f (a0 : Int) : Option (Int) := some (mx (-32768) (mn 32767 a0))
set_option maxHeartbeats 8000000 in
set_option maxRecDepth 100000 in
theorem splicerref01_Sat.calls (a0 : Int) (r : Int) (w : World) (h : splicerref01_Sat.f a0 = some r) :
    Calls Try.prog 22 #[.int .i64 a0] w fun e w' => e = .returned (.int .i64 r) ∧ Below w.heap.size w w' := by
  have HB := Aside0.mk (Below.refl w.heap.size w)
  have H : (some (mx (-32768) (mn 32767 a0))) = some r := h
  clear h
  obtain ⟨ji2, hji2⟩ : ∃ j_ : Int, (mn 32767 a0) = j_ := ⟨_, rfl⟩
  replace H : (some (mx (-32768) (ji2))) = some r := by first | (rw [hji2] at H; exact H) | (simp only [hji2] at H ⊢; exact H)
  (try (have hji2h : ji2 ≤ 32767 := by (rw [← hji2]; unfold mn; (repeat' split) <;> omega)))
  (try (have hji2g : ji2 ≤ 64 := by omega))
  have hji2_ : (if a0 < 32767 then a0 else 32767) = ji2 := hji2
  obtain ⟨ji3, hji3⟩ : ∃ j_ : Int, (mx (-32768) (ji2)) = j_ := ⟨_, rfl⟩
  replace H : (some ji3) = some r := by first | (rw [hji3] at H; exact H) | (simp only [hji3] at H ⊢; exact H)
  have hji3_ : (if (-32768) < (ji2) then (ji2) else (-32768)) = ji3 := hji3
  obtain rfl := Option.some.inj H
  go_enter Try.func22, Try.ntmps22
  go_wp2
  go_ret
  exact ⟨by first | rfl | (simp [errW_none, errW_some] <;> rfl) | (simp only [← hji2, ← hji3]; first | rfl | (simp [errW_none, errW_some] <;> rfl)) | (simp [*, errW_none, errW_some] <;> rfl), by repeat (first | (with_reducible first | exact HB.out | apply below_alloc | apply pw_below_drewN | apply below_drew1) | exact HB.out)⟩

/-! ### num_within: function 40 -/
def num_within.l0 : Nat → Int → List Int → Int → Int → Option (Bool)
  | 0, _, _, _, _ => none
  | k + 1, x0, x7, x8, x9 => if x9 < x8 then (if 0 ≤ x9 then (if x9 < (x7.length : Int) then (if (rd x7 x9) < (wrap64 (-x0)) then (some false) else (if (rd x7 x9) > x0 then (some false) else (num_within.l0 k x0 x7 x8 (wrap64 (x9 + 1))))) else (none)) else (none)) else (some true)
def num_within.f (k : Nat) (a0 : Int) (l1 : List Int) : Option (Bool) := num_within.l0 k a0 l1 (l1.length : Int) 0
theorem num_within.mono_l : ∀ k, (∀ y0 y1 y2 y3, LeO (num_within.l0 k y0 y1 y2 y3) (num_within.l0 (k + 1) y0 y1 y2 y3))
  | 0 => fun _ _ _ _ r h => by simp [num_within.l0] at h
  | k + 1 => by
    have ih0 := num_within.mono_l k
    · intro y0 y1 y2 y3
      unfold num_within.l0
      repeat' first
      | (with_reducible exact ih0 _ _ _ _)
      | (with_reducible exact LeO.refl _)
      | (with_reducible exact LeO.none _)
      | (with_reducible refine LeO.ite ?_ ?_)
      | (with_reducible refine LeO.bind ?_ (fun _ => ?_))
      | exact ih0 _ _ _ _
      | exact LeO.none _
      | refine LeO.ite ?_ ?_
      | refine LeO.bind ?_ (fun _ => ?_)
theorem num_within.mono : ∀ a0 a1 k, LeO (num_within.f k a0 a1) (num_within.f (k + 1) a0 a1) := by
  intro a0 a1 k
  have ih0 := num_within.mono_l k
  unfold num_within.f
  repeat' first
      | (with_reducible exact ih0 _ _ _ _)
      | (with_reducible exact LeO.refl _)
      | (with_reducible exact LeO.none _)
      | (with_reducible refine LeO.ite ?_ ?_)
      | (with_reducible refine LeO.bind ?_ (fun _ => ?_))
      | exact ih0 _ _ _ _
      | exact LeO.none _
      | refine LeO.ite ?_ ?_
      | refine LeO.bind ?_ (fun _ => ?_)
set_option maxHeartbeats 8000000 in
set_option maxRecDepth 100000 in
theorem num_within.calls (k : Nat) (a0 : Int) (A1 : Option Addr) (c1 : Nat) (l1 : List Int) (r : Bool) (w : World) (hr1 : Kd.C (Kd.int .i64) w A1 l1.length l1) (hc1 : l1.length ≤ c1) (h : num_within.f k a0 l1 = some r) :
    Calls Try.prog 40 #[.int .i64 a0, .slice A1 l1.length c1] w fun e w' => e = .returned (.bool r) ∧ Drawn0 w w' := by
  have HR1 := Aside0.mk hr1
  have HC1 := Aside0.mk hc1
  clear hr1 hc1
  have H : (num_within.l0 k a0 l1 (l1.length : Int) 0) = some r := h
  clear h
  have H' := Aside0.mk H
  clear H
  go_enter Try.func40, Try.ntmps40
  go_wp2
  go_loopg [9] k (fun kq v9 w' => ∃ (x9_1 : Int), v9 = .int .i64 x9_1 ∧ Aside0 (num_within.l0 kq a0 l1 (l1.length : Int) x9_1 = some r) ∧ Aside0 (kq ≤ k) ∧ Drawn0 w w')
  case atStart => exact ⟨(0), (by first | rfl | (simp; done) | (simp [*]; done)), H', ⟨Nat.le_refl _⟩, by repeat (first | exact Drawn0.refl _ | apply Drawn0.step)⟩
  case round =>
    clear H'
    try clear c1
    try clear p2
    obtain ⟨x9_1, rfl, HA, HK1, ⟨m1, rfl⟩⟩ := hrel
    cases gk with
    | zero => exact absurd HA.out (by simp [num_within.l0])
    | succ k1 =>
      have H := HA.out
      clear HA
      simp only [num_within.l0] at H
      by_cases c3 : x9_1 < (l1.length : Int)
      · rw [if_pos c3] at H
        have c3b0 : decide (x9_1 < (l1.length : Int)) = true := decide_eq_true c3
        clear c3
        by_cases c4 : 0 ≤ x9_1
        · rw [if_pos c4] at H
          have c4b0 : decide (0 ≤ x9_1) = true := decide_eq_true c4
          clear c4
          by_cases c5 : x9_1 < (l1.length : Int)
          · rw [if_pos c5] at H
            have c5b0 : decide (x9_1 < (l1.length : Int)) = true := decide_eq_true c5
            clear c5
            by_cases c6 : (rd l1 x9_1) < (wrap64 (-a0))
            · rw [if_pos c6] at H
              have c6b0 : decide ((rd l1 x9_1) < (wrap64 (-a0))) = true := decide_eq_true c6
              clear c6
              obtain rfl := Option.some.inj H
              have p115 : 0 ≤ (x9_1 : Int) := of_decide_eq_true (by first | (with_reducible assumption) | assumption)
              have q115 : x9_1 < (l1.length : Int) := of_decide_eq_true (by first | (with_reducible assumption) | assumption)
              obtain ⟨ad115, e115, hx115_0⟩ := Kd.at_int HR1.out x9_1 p115 q115
              cases e115
              replace p115 := eq_true p115
              replace q115 := eq_true q115
              go_wp2
              go_ret
              exact ⟨by first | rfl | (simp; done) | (simp [*]; done), by repeat (first | exact Drawn0.refl _ | apply Drawn0.step)⟩
            · rw [if_neg c6] at H
              have c6b0 : decide ((rd l1 x9_1) < (wrap64 (-a0))) = false := decide_eq_false c6
              clear c6
              by_cases c7 : (rd l1 x9_1) > a0
              · rw [if_pos c7] at H
                have c7b0 : decide (a0 < (rd l1 x9_1)) = true := decide_eq_true c7
                clear c7
                obtain rfl := Option.some.inj H
                have p115 : 0 ≤ (x9_1 : Int) := of_decide_eq_true (by first | (with_reducible assumption) | assumption)
                have q115 : x9_1 < (l1.length : Int) := of_decide_eq_true (by first | (with_reducible assumption) | assumption)
                obtain ⟨ad115, e115, hx115_0⟩ := Kd.at_int HR1.out x9_1 p115 q115
                cases e115
                replace p115 := eq_true p115
                replace q115 := eq_true q115
                go_wp2
                go_ret
                exact ⟨by first | rfl | (simp; done) | (simp [*]; done), by repeat (first | exact Drawn0.refl _ | apply Drawn0.step)⟩
              · rw [if_neg c7] at H
                have c7b0 : decide (a0 < (rd l1 x9_1)) = false := decide_eq_false c7
                clear c7
                have H' := Aside0.mk H
                clear H
                have p115 : 0 ≤ (x9_1 : Int) := of_decide_eq_true (by first | (with_reducible assumption) | assumption)
                have q115 : x9_1 < (l1.length : Int) := of_decide_eq_true (by first | (with_reducible assumption) | assumption)
                obtain ⟨ad115, e115, hx115_0⟩ := Kd.at_int HR1.out x9_1 p115 q115
                cases e115
                replace p115 := eq_true p115
                replace q115 := eq_true q115
                go_wp2
                go_roundg k1
                case measure => have := HK1.out; omega
                case rel => exact ⟨(wrap64 (x9_1 + 1)), (by first | rfl | (simp; done) | (simp [*]; done)), H', ⟨by have := HK1.out; omega⟩, by repeat (first | exact Drawn0.refl _ | apply Drawn0.step)⟩
          · rw [if_neg c5] at H
            exact absurd H (by simp)
        · rw [if_neg c4] at H
          exact absurd H (by simp)
      · rw [if_neg c3] at H
        have c3b0 : decide (x9_1 < (l1.length : Int)) = false := decide_eq_false c3
        clear c3
        obtain rfl := Option.some.inj H
        go_wp2
        go_ret
        exact ⟨by first | rfl | (simp; done) | (simp [*]; done), by repeat (first | exact Drawn0.refl _ | apply Drawn0.step)⟩

/-! ### num_Shr: function 23 -/
def num_Shr.j0 : Nat → Int → Int → Bool → Option (Int)
  | 0, _, _, _ => none
  | k + 1, x0, x1, x5 => if x5 = true then (some 0) else (if x1 = 0 then (some x0) else (if 0 ≤ (wrap64 (x1 - 1)) then (if 0 ≤ x1 then (some (shr .i64 (wrap64 (x0 + (shl .i64 1 (wrap64 (x1 - 1))))) x1)) else (none)) else (none)))
def num_Shr.f (k : Nat) (a0 : Int) (a1 : Int) : Option (Int) := if a1 < 0 then (num_Shr.j0 k a0 a1 true) else (if a1 > 60 then (num_Shr.j0 k a0 a1 true) else ((num_within.f k 2305843009213693952 (([a0] : List Int))).bind fun t119 => (num_Shr.j0 k a0 a1 (!t119))))
theorem num_Shr.mono_l : ∀ k, (∀ y0 y1 y2, LeO (num_Shr.j0 k y0 y1 y2) (num_Shr.j0 (k + 1) y0 y1 y2))
  | 0 => fun _ _ _ r h => by simp [num_Shr.j0] at h
  | k + 1 => by
    have ih0 := num_Shr.mono_l k
    · intro y0 y1 y2
      unfold num_Shr.j0
      repeat' first
      | (with_reducible exact ih0 _ _ _)
      | (with_reducible exact num_within.mono _ _ _)
      | (with_reducible exact LeO.refl _)
      | (with_reducible exact LeO.none _)
      | (with_reducible refine LeO.ite ?_ ?_)
      | (with_reducible refine LeO.bind ?_ (fun _ => ?_))
      | exact ih0 _ _ _
      | exact num_within.mono _ _ _
      | exact LeO.none _
      | refine LeO.ite ?_ ?_
      | refine LeO.bind ?_ (fun _ => ?_)
theorem num_Shr.mono : ∀ a0 a1 k, LeO (num_Shr.f k a0 a1) (num_Shr.f (k + 1) a0 a1) := by
  intro a0 a1 k
  have ih0 := num_Shr.mono_l k
  unfold num_Shr.f
  repeat' first
      | (with_reducible exact ih0 _ _ _)
      | (with_reducible exact num_within.mono _ _ _)
      | (with_reducible exact LeO.refl _)
      | (with_reducible exact LeO.none _)
      | (with_reducible refine LeO.ite ?_ ?_)
      | (with_reducible refine LeO.bind ?_ (fun _ => ?_))
      | exact ih0 _ _ _
      | exact num_within.mono _ _ _
      | exact LeO.none _
      | refine LeO.ite ?_ ?_
      | refine LeO.bind ?_ (fun _ => ?_)
set_option maxHeartbeats 8000000 in
set_option maxRecDepth 100000 in
theorem num_Shr.calls (k : Nat) (a0 : Int) (a1 : Int) (r : Int) (w : World) (h : num_Shr.f k a0 a1 = some r) :
    Calls Try.prog 23 #[.int .i64 a0, .int .i64 a1] w fun e w' => e = .returned (.int .i64 r) ∧ Below w.heap.size w w' := by
  have HB := Aside0.mk (Below.refl w.heap.size w)
  have H : (if a1 < 0 then (num_Shr.j0 k a0 a1 true) else (if a1 > 60 then (num_Shr.j0 k a0 a1 true) else ((num_within.f k 2305843009213693952 (([a0] : List Int))).bind fun t119 => (num_Shr.j0 k a0 a1 (!t119))))) = some r := h
  clear h
  have HC3 := Aside0.mk H
  clear H
  go_enter Try.func23, Try.ntmps23
  go_upto_region 1 with (fail)
  go_cut [5] (fun v5 wc => ∃ (kq : Nat) (x5_2 : Bool), v5 = .bool x5_2 ∧ Aside0 (num_Shr.j0 kq a0 a1 x5_2 = some r) ∧ Aside0 (kq ≤ k) ∧ Aside0 (Below w.heap.size w wc))
  case first =>
    have H := HC3.out
    clear HC3
    by_cases c4 : a1 < 0
    · rw [if_pos c4] at H
      have c4b0 : decide (a1 < 0) = true := decide_eq_true c4
      clear c4
      (first | rw [c4b0] | (simp only [i64_w, i32_w]; rw [c4b0]) | skip)
      have H' := Aside0.mk H
      clear H
      go_wp2
      go_meet
      case rel => exact ⟨_, (true), (by first | rfl | (simp; done) | (simp [*]; done)), H', ⟨by first | omega | exact Nat.le_refl _⟩, ⟨by repeat (first | (with_reducible first | exact HB.out | apply below_alloc | apply pw_below_drewN | apply below_drew1) | exact HB.out)⟩⟩
    · rw [if_neg c4] at H
      have c4b0 : decide (a1 < 0) = false := decide_eq_false c4
      clear c4
      (first | rw [c4b0] | (simp only [i64_w, i32_w]; rw [c4b0]) | skip)
      by_cases c5 : a1 > 60
      · rw [if_pos c5] at H
        have c5b0 : decide (60 < a1) = true := decide_eq_true c5
        clear c5
        have H' := Aside0.mk H
        clear H
        go_wp2
        go_meet
        case rel => exact ⟨_, (true), (by first | rfl | (simp; done) | (simp [*]; done)), H', ⟨by first | omega | exact Nat.le_refl _⟩, ⟨by repeat (first | (with_reducible first | exact HB.out | apply below_alloc | apply pw_below_drewN | apply below_drew1) | exact HB.out)⟩⟩
      · rw [if_neg c5] at H
        have c5b0 : decide (60 < a1) = false := decide_eq_false c5
        clear c5
        obtain ⟨y116, hy116⟩ : ∃ y_ : List Int, y_ = (([a0] : List Int)) := ⟨_, rfl⟩
        replace H : ((num_within.f k 2305843009213693952 y116).bind fun t119 => (num_Shr.j0 k a0 a1 (!t119))) = some r := by first | (rw [hy116]; with_reducible exact H) | (have H2_ := (Option.bind_some _ _).symm.trans H; rw [hy116]; with_reducible exact H2_) | (have H2_ := (Option.bind_some _ _).symm.trans H; with_reducible exact H2_) | with_reducible exact H | (rw [hy116]; exact H) | exact H
        have Ny116 := Aside0.mk hy116
        clear hy116
        replace H := Option.bind_eq_some_iff.mp H
        obtain ⟨t119, A60, H⟩ := H
        replace H : (num_Shr.j0 k a0 a1 (!t119)) = some r := H
        have A6 := Aside0.mk A60
        clear A60
        have H' := Aside0.mk H
        clear H
        go_wp2_with (first | ((with_reducible refine gate_dst (N := 14) rfl ?_); (try (refine gate_guard (by rfl) ?_; dsimp only)); refine Kd.R_lit (Kd.int .i64) _ 3 ?hg (N := 14) ?hd (xs := ([a0] : List Int)) (inner := [.int .i64 a0]) (ok := fun _ => True) (okp := fun _ => True) ?hr ?hp (fun _ hk => hk) trivial (Below.refl _ _) (Nat.le_refl _) (by simp) ?_; (case hd => rfl); (case hg => rfl); (case hr => first | (go_simp; done) | (go_simp; rfl)); (case hp => exact (Reps.one (show Kd.M (Kd.int .i64) _ _ _ a0 [.int .i64 a0] from rfl) (Reps.none _ _))); intro v117 w7 ho8 hb hg_ hnew_; clear hg_ hnew_; (first | rw [← Ny116.out] at ho8 | (simp only [Int.reduceToNat] at ho8; rw [← Ny116.out] at ho8)); have n0_ := Aside0.mk (Kd.R_lower ho8 (below_size (by repeat (first | (with_reducible first | exact HB.out | apply below_alloc | apply pw_below_drewN | apply below_drew1) | exact HB.out)))); have n1_ := Aside0.mk (below_step (by repeat (first | (with_reducible first | exact HB.out | apply below_alloc | apply pw_below_drewN | apply below_drew1) | exact HB.out)) hb); clear HB; have HO118 := n0_; have HB := n1_; clear n0_ n1_; clear hb ho8; obtain ⟨Ao9, co9, eo9⟩ := Kd.R_slice HO118.out; subst eo9) | (go_at_call 40; (with_reducible refine (num_within.calls k 2305843009213693952 _ _ y116 t119 _ ?side1 ?side2 A6.out).mono ?_); (case side1 => repeat (first | exact (Kd.R_reads' HO118.out).2.2 | (with_reducible refine Kd.C_alloc ?_ _) | (with_reducible refine Kd.C_drewN ?_ _) | (with_reducible refine Kd.C_drew ?_))); (case side2 => exact (Kd.R_reads' HO118.out).2.1); rintro e w' ⟨rfl, ⟨nd, rfl⟩⟩))
        go_meet
        case rel => exact ⟨_, (!t119), (by first | rfl | (simp; done) | (simp [*]; done)), H', ⟨by first | omega | exact Nat.le_refl _⟩, ⟨by repeat (first | (with_reducible first | exact HB.out | apply below_alloc | apply pw_below_drewN | apply below_drew1) | exact HB.out)⟩⟩
  case rest =>
    clear HC3
    try clear c2
    try clear p2
    try clear c4
    try clear c4b0
    try clear c5
    try clear c5b0
    obtain ⟨kq, x5_2, rfl, HA, HJ2, HB⟩ := hcut
    cases kq with
    | zero => exact absurd HA.out (by simp [num_Shr.j0])
    | succ kj2 =>
      have H := HA.out
      clear HA
      simp only [num_Shr.j0] at H
      by_cases c10 : x5_2 = true
      · subst c10
        have H1 : (some 0) = some r := by rw [if_pos rfl] at H; exact H
        clear H
        have H := H1
        clear H1
        obtain rfl := Option.some.inj H
        go_wp2
        go_ret
        exact ⟨by first | rfl | (simp [errW_none, errW_some] <;> rfl) | (simp [*, errW_none, errW_some] <;> rfl), by repeat (first | (with_reducible first | exact HB.out | apply below_alloc | apply pw_below_drewN | apply below_drew1) | exact HB.out)⟩
      · replace c10 := Bool.eq_false_iff.mpr c10
        subst c10
        have H1 : (if a1 = 0 then (some a0) else (if 0 ≤ (wrap64 (a1 - 1)) then (if 0 ≤ a1 then (some (shr .i64 (wrap64 (a0 + (shl .i64 1 (wrap64 (a1 - 1))))) a1)) else (none)) else (none))) = some r := by rw [if_neg (show ¬ (false = true) by decide)] at H; exact H
        clear H
        have H := H1
        clear H1
        by_cases c11 : a1 = 0
        · rw [if_pos c11] at H
          have c11b0 : (a1 == 0) = true := beq_iff_eq.mpr c11
          have c11b1 : (a1 != 0) = false := bne_eq_false_iff_eq.mpr c11
          clear c11
          obtain rfl := Option.some.inj H
          go_wp2
          go_ret
          exact ⟨by first | rfl | (simp [errW_none, errW_some] <;> rfl) | (simp [*, errW_none, errW_some] <;> rfl), by repeat (first | (with_reducible first | exact HB.out | apply below_alloc | apply pw_below_drewN | apply below_drew1) | exact HB.out)⟩
        · rw [if_neg c11] at H
          have c11b0 : (a1 == 0) = false := beq_eq_false_iff_ne.mpr c11
          have c11b1 : (a1 != 0) = true := bne_iff_ne.mpr c11
          obtain ⟨ji12, hji12⟩ : ∃ j_ : Int, (wrap64 (a1 - 1)) = j_ := ⟨_, rfl⟩
          replace H : (if 0 ≤ (ji12) then (if 0 ≤ a1 then (some (shr .i64 (wrap64 (a0 + (shl .i64 1 (ji12)))) a1)) else (none)) else (none)) = some r := by first | (rw [hji12] at H; exact H) | (simp only [hji12] at H ⊢; exact H)
          have hji12w : (IntKind.i64.wrap (a1 - 1)) = ji12 := (i64_w _).trans hji12
          by_cases c13 : 0 ≤ (ji12)
          · rw [if_pos c13] at H
            have c13b0 := eq_true c13
            have c13b1 : decide (0 ≤ (ji12)) = true := decide_eq_true c13
            clear c13
            obtain ⟨ji14, hji14⟩ : ∃ j_ : Int, (shl .i64 1 (ji12)) = j_ := ⟨_, rfl⟩
            replace H : (if 0 ≤ a1 then (some (shr .i64 (wrap64 (a0 + (ji14))) a1)) else (none)) = some r := by first | (rw [hji14] at H; exact H) | (simp only [hji14] at H ⊢; exact H)
            have hji14_ : (IntKind.i64.wrap (1 * 2 ^ min (ji12).toNat 64)) = ji14 := hji14
            have hji14z : (ji12) ≤ 64 → (IntKind.i64.wrap (1 * 2 ^ (ji12).toNat)) = ji14 := shl_small hji14
            have hji14u : (IntKind.i64.wrap (2 ^ min (ji12).toNat 64)) = ji14 := by have h_ := hji14_; rw [Int.one_mul] at h_; exact h_
            have hji14v : (ji12) ≤ 64 → (IntKind.i64.wrap (2 ^ (ji12).toNat)) = ji14 := fun hle_ => by have h_ := hji14z hle_; rw [Int.one_mul] at h_; exact h_
            have hji14y : (wrap64 (1 * 2 ^ min (ji12).toNat 64)) = ji14 := (i64_w _).symm.trans hji14_
            have hji14x : (ji12) ≤ 64 → (wrap64 (1 * 2 ^ (ji12).toNat)) = ji14 := fun h_ => (i64_w _).symm.trans (hji14z h_)
            by_cases c15 : 0 ≤ a1
            · rw [if_pos c15] at H
              have c15b0 := eq_true c15
              have c15b1 : decide (0 ≤ a1) = true := decide_eq_true c15
              clear c15
              obtain ⟨ji16, hji16⟩ : ∃ j_ : Int, (shr .i64 (wrap64 (a0 + (ji14))) a1) = j_ := ⟨_, rfl⟩
              replace H : (some ji16) = some r := by first | (rw [hji16] at H; exact H) | (simp only [hji16] at H ⊢; exact H)
              have hji16_ : ((wrap64 (a0 + (ji14))) / 2 ^ min a1.toNat 64) = ji16 := hji16
              have hji16z : a1 ≤ 64 → ((wrap64 (a0 + (ji14))) / 2 ^ a1.toNat) = ji16 := shr_small hji16
              obtain rfl := Option.some.inj H
              go_wp2
              go_ret
              exact ⟨by first | rfl | (simp [errW_none, errW_some] <;> rfl) | (simp only [← hji12, ← hji14, ← hji16]; first | rfl | (simp [errW_none, errW_some] <;> rfl)) | (simp [*, errW_none, errW_some] <;> rfl), by repeat (first | (with_reducible first | exact HB.out | apply below_alloc | apply pw_below_drewN | apply below_drew1) | exact HB.out)⟩
            · rw [if_neg c15] at H
              exact absurd H (by simp)
          · rw [if_neg c13] at H
            exact absurd H (by simp)

end Go.Proofs.Ytkidbmhmjoogiaa.S
