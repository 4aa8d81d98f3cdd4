-- Written for this claim by a program of the session (myprint.py), out of the translation's own print; Lean checks it.
import Derived.Test.YtaoodgijapiipaaSx0
import Derived.Test.YtaoodgijapiipaaSx1
import Derived.Test.YtaoodgijapiipaaSx4
namespace Go.Proofs.Ytaoodgijapiipaa.S
open Go.RowKit Go.Proofs.YtaoodgijapiipaaW.PrintWords Go.Proofs.YtaoodgijapiipaaW.PrintLast Go.Proofs.YtaoodgijapiipaaW.PrintMore
attribute [local go_sem] max2_int min2_int max_two min_two max_three min_three max_four min_four   -- for this text's walks alone
set_option linter.unusedVariables false
set_option linter.unusedSimpArgs false

/-! ### splicerlaw02_OctetWrites: function 5 -/
section
open OctW
theorem octw_l (n k : Nat) (hn : n < 9223372036854775808) (hk : k ≤ 7) (d : Nat) : ∀ i fuel, i + d = k → d < fuel → splicerref02_Num.l0 fuel (n : Int) (k : Int) ⟨(beN n i).toArray⟩ (i : Int) = some ⟨(beN n k).toArray⟩ := by
  induction d with
  | zero =>
    intro i fuel hi hf
    obtain ⟨fuel, rfl⟩ : ∃ m, fuel = m + 1 := ⟨fuel - 1, by omega⟩
    obtain rfl : i = k := by omega
    simp only [splicerref02_Num.l0]
    rw [if_neg (by omega)]
  | succ d ih =>
    intro i fuel hi hf
    obtain ⟨fuel, rfl⟩ : ∃ m, fuel = m + 1 := ⟨fuel - 1, by omega⟩
    simp only [splicerref02_Num.l0]
    have e8 : wrap64 (8 * (i : Int)) = ((8 * i : Nat) : Int) := by unfold wrap64; omega
    rw [if_pos (by omega), e8, if_pos (by omega), Option.bind_some]
    have hb : Go.bits .and .i64 (shr .i64 (n : Int) ((8 * i : Nat) : Int)) 255 % 256 = ((n / 256 ^ i % 256 : Nat) : Int) := by
      have e1 : shr .i64 (n : Int) ((8 * i : Nat) : Int) = ((n / 256 ^ i : Nat) : Int) := by
        unfold shr
        rw [Int.toNat_natCast, Nat.min_eq_left (by show 8 * i ≤ 64; omega)]
        exact shr8 n i
      rw [e1]
      have hle : n / 256 ^ i ≤ n := Nat.div_le_self _ _
      generalize n / 256 ^ i = x at *
      have := bits_mask .i64 63 (by decide) (fun n h0 h1 => by rw [i64_w]; unfold wrap64; omega) 8 (by decide) (x : Int) (by omega) (by omega)
      rw [show ((2 : Int) ^ 8 - 1) = 255 from rfl] at this
      rw [this]; omega
    rw [hb]
    have hs : strOfNums [((n / 256 ^ i % 256 : Nat) : Int)] ++ (⟨(beN n i).toArray⟩ : ByteArray) = ⟨(beN n (i + 1)).toArray⟩ := by
      rw [show strOfNums [((n / 256 ^ i % 256 : Nat) : Int)] = ⟨#[UInt8.ofNat (n / 256 ^ i % 256)]⟩ by simp only [strOfNums, List.map_cons, List.map_nil, Int.toNat_natCast]]
      apply ByteArray.ext
      simp [beN]
    rw [hs, if_pos (by rw [strOfNums_size]; show 1 + (beN n i).toArray.size ≤ _; simp [beN_length]; omega), show wrap64 ((i : Int) + 1) = ((i + 1 : Nat) : Int) by unfold wrap64; omega]
    exact ih (i + 1) fuel (by omega) (by omega)
theorem octw_num (n k : Int) (h0 : -9223372036854775808 ≤ n) (h1 : n ≤ 9223372036854775807) (hk0 : -9223372036854775808 ≤ k) (hk1 : k ≤ 9223372036854775807) : splicerref02_Num.f 40 n k = some ⟨(numL n k).toArray⟩ := by
  unfold splicerref02_Num.f
  by_cases c1 : k < 1
  · rw [if_pos c1, numL, if_neg (fun h => by have := h.1; omega)]; rfl
  · rw [if_neg c1]
    by_cases c2 : k > 7
    · rw [if_pos c2, numL, if_neg (fun h => by have := h.2.1; omega)]; rfl
    · rw [if_neg c2]
      by_cases c3 : n < 0
      · rw [if_pos c3, numL, if_neg (fun h => by have := h.2.2.1; omega)]; rfl
      · obtain ⟨n, rfl⟩ := Int.eq_ofNat_of_zero_le (show 0 ≤ n by omega)
        obtain ⟨k, rfl⟩ := Int.eq_ofNat_of_zero_le (show 0 ≤ k by omega)
        have e8 : wrap64 (8 * (k : Int)) = ((8 * k : Nat) : Int) := by unfold wrap64; omega
        rw [if_neg c3, e8, if_pos (by omega)]
        have hs : shl .i64 1 ((8 * k : Nat) : Int) = ((256 ^ k : Nat) : Int) := by
          unfold shl
          have hp : 256 ^ k ≤ 72057594037927936 := Nat.le_trans (Nat.pow_le_pow_right (by decide) (show k ≤ 7 by omega)) (by decide)
          rw [Int.toNat_natCast, Nat.min_eq_left (by show 8 * k ≤ 64; omega), Int.one_mul, pow8, i64_w]
          generalize 256 ^ k = p at *
          unfold wrap64; omega
        rw [hs]
        have hfit := fits_iff n k (by omega) (by omega)
        have hpos : 0 < 256 ^ k := Nat.pow_pos (by decide)
        by_cases c4 : 256 ^ k ≤ n
        · rw [decide_eq_true (by omega), numL, if_neg (fun h => by have := (Nat.div_eq_zero_iff_lt hpos).1 (hfit.1 h); omega)]; rfl
        · rw [decide_eq_false (by omega), numL, if_pos (hfit.2 (Nat.div_eq_of_lt (by omega))), Int.toNat_natCast, Int.toNat_natCast]
          exact octw_l n k (by omega) (by omega) k 0 39 (by omega) (by omega)
def octw_w (s : ByteArray) (l : List (Int × Int)) : Nat → List UInt8
  | 0 => []
  | i + 1 => octw_w s l i ++ numL (l.getD i (0, 0)).1 (l.getD i (0, 0)).2 ++ s.data.toList
theorem numL_len (n k : Int) : (numL n k).length ≤ 7 := by
  unfold numL
  split
  · rename_i h; rw [beN_length]; have := h.2.1; omega
  · exact Nat.zero_le _
theorem octw_w_len (s : ByteArray) (l : List (Int × Int)) (i : Nat) : (octw_w s l i).length ≤ (7 + s.size) * i := by
  induction i with
  | zero => exact Nat.zero_le _
  | succ i ih =>
    show (octw_w s l i ++ _ ++ _).length ≤ _
    have := numL_len (l.getD i (0, 0)).1 (l.getD i (0, 0)).2
    rw [List.length_append, List.length_append, Nat.mul_add, Nat.mul_one]
    have e : s.data.toList.length = s.size := by simp
    omega
theorem octw_cell {w w' : World} {A : Option Addr} {l : List (Int × Int)} (h : Kd.C (Kd.pair (Kd.int .i64) (Kd.int .i64)) w A l.length l) (hb : Below w.heap.size w w') (i : Nat) (hi : i < l.length) :
    ∃ ad, A = some ad ∧ w'.cell? (ad.add (i * 2)) = some (.int .i64 (l.getD i (0, 0)).1) ∧ w'.cell? ⟨(ad.add (i * 2)).block, (ad.add (i * 2)).off + 1, none⟩ = some (.int .i64 (l.getD i (0, 0)).2) := by
  obtain ⟨ad, c, hA, _, hK, hc⟩ := Kd.C_get (Kd.C_below h hb) ((0, 0) : Int × Int) (i : Int) (by omega) (by omega)
  obtain ⟨c0, c1, rfl, h0, h1⟩ := hK
  have h0' : c0 = [.int .i64 _] := h0
  have h1' : c1 = [.int .i64 _] := h1
  subst h0' h1'
  rw [Int.toNat_natCast] at *
  exact ⟨ad, hA, hc 0 _ rfl, by rw [← add_field _ _ 1 (by omega)]; exact hc 1 _ rfl⟩
theorem octw_wnum (B b : Nat) (n k : Int) (l : List UInt8) (w : World) (h1 : n ≤ 9223372036854775807) (hw : Wr B b l w) (hlen : l.length + 7 ≤ 140737488355328) (hBw : B ≤ w.heap.size) :
    Calls Try.prog 22 #[.pointer (some ⟨b, 0, none⟩), .int .i64 n, .int .i64 k] w fun e w' => e = .returned (.tuple #[]) ∧ Wr B b (l ++ numL n k) w' ∧ Below B w w' ∧ Kp b w w' := by
  by_cases h : 1 ≤ k ∧ k ≤ 7 ∧ 0 ≤ n
  · obtain ⟨n, rfl⟩ := Int.eq_ofNat_of_zero_le h.2.2
    obtain ⟨k, rfl⟩ := Int.eq_ofNat_of_zero_le (show 0 ≤ k by omega)
    exact num_some B b n k l w (by omega) (by omega) (by omega) hw (by omega) hBw
  · refine (num_no (some ⟨b, 0, none⟩) n k w (.inl h)).mono ?_
    rintro e w' ⟨rfl, rfl⟩
    rw [numL, if_neg (fun hf => h ⟨hf.1, hf.2.1, hf.2.2.1⟩), List.append_nil]
    exact ⟨rfl, hw, Below.refl _ _, Lib.OthersKept.refl _ _ _⟩
theorem octw_same {ad : Addr} {P Q : Addr → Prop} (h : ∃ ad', some ad = some ad' ∧ P ad' ∧ Q ad') : P ad ∧ Q ad := by
  obtain ⟨_, h, h1, h2⟩ := h
  cases h
  exact ⟨h1, h2⟩
theorem octw_app (L M : List UInt8) : (⟨L.toArray⟩ : ByteArray) ++ ⟨M.toArray⟩ = ⟨(L ++ M).toArray⟩ := by
  apply ByteArray.ext
  simp
theorem octw_app2 (L : List UInt8) (s : ByteArray) : (⟨L.toArray⟩ : ByteArray) ++ s = ⟨(L ++ s.data.toList).toArray⟩ := by
  apply ByteArray.ext
  simp
def OctW8.T8 : Bool × List (List Nat × List Nat) := (true, [([], []), ([], []), ([], []), ([1, 2], [1, 2]), ([3], [3]), ([4], [4]), ([], []), ([], []), ([6, 7], [6, 7]), ([8], [8]), ([9], [9]), ([0, 5, 10], [0, 5, 10])])
def OctW8.B8 : List Nat := [0, 0, 0, 6, 14, 30, 0, 0, 192, 448, 960, 2047]
theorem OctW8.tab8 : rtab .any (opsOf Try.f5 8) = OctW8.T8 := by kernel_rfl
theorem OctW8.bits8 : waitsOk OctW8.T8.2 OctW8.B8 = true := by kernel_rfl
/- 0:move>25; 1:move>26; 2:move>27; 3:indexAddr>28; 4:indexAddr>29; 5:load>30; 6:move>31; 7:move>32; 8:indexAddr>33; 9:indexAddr>34; 10:load>35; 11:call>36 -/
def OctW10.T10 : Bool × List (List Nat × List Nat) := (true, [([], []), ([], []), ([], []), ([1, 2], [1, 2]), ([3], [3]), ([4], [4]), ([], []), ([], []), ([6, 7], [6, 7]), ([8], [8]), ([9], [9]), ([5, 10], [5, 10]), ([0, 11], [0, 11]), ([], []), ([12, 13], [12, 13]), ([14, 11, 0, 1, 2, 3, 4, 5, 6, 7, 8, 9, 10, 11, 12, 13, 14], [0, 14])])
def OctW10.B10 : List Nat := [0, 0, 0, 6, 14, 30, 0, 0, 192, 448, 960, 2046, 4095, 0, 16383, 32767]
theorem OctW10.tab10 : rtab .any (opsOf Try.f5 10) = OctW10.T10 := by kernel_rfl
theorem OctW10.bits10 : waitsOk OctW10.T10.2 OctW10.B10 = true := by kernel_rfl
/- 0:move>40; 1:move>41; 2:move>42; 3:indexAddr>43; 4:indexAddr>44; 5:load>45; 6:move>46; 7:move>47; 8:indexAddr>48; 9:indexAddr>49; 10:load>50; 11:call>51; 12:binOp>52; 13:move>53; 14:binOp>54; 15:assign>6 -/
set_option maxHeartbeats 2000000 in
set_option maxRecDepth 100000 in
theorem octw_run (A0 : Option Addr) (c0 : Nat) (l0 : List (Int × Int)) (s : ByteArray) (w : World) (hr0 : Kd.C (Kd.pair (Kd.int .i64) (Kd.int .i64)) w A0 l0.length l0) (hc0 : l0.length ≤ c0) (hx : ∀ i : Nat, i < l0.length → (Lit.int .i64 (l0.getD i (0, 0)).1).wf = true ∧ (Lit.int .i64 (l0.getD i (0, 0)).2).wf = true) (hn : l0.length ≤ 30) (hs : s.size ≤ 100) :
    Calls Try.prog 5 #[.slice A0 l0.length c0, .string s] w fun e w' => e = .returned (.bool true) ∧ Below w.heap.size w w' := by
  have hw0 := wr_new w.heap.size w (Nat.le_refl _)
  have hd : decide (30 < (l0.length : Int)) = false := by rw [decide_eq_false_iff_not]; omega
  have hd2 : decide (100 < (s.size : Int)) = false := by rw [decide_eq_false_iff_not]; omega
  have HR0 := Aside0.mk hr0
  have HX := Aside0.mk hx
  clear hr0 hx
  go_enter Try.func5, Try.ntmps5
  go_wp2_with fail
  go_loopw [7, 6] (fun v u wr => ∃ i : Nat, i ≤ l0.length ∧ v = .int .i64 i ∧ u = .string ⟨(octw_w s l0 i).toArray⟩ ∧ Wr w.heap.size w.heap.size (octw_w s l0 i) wr ∧ Below w.heap.size w wr) (fun v _ _ => l0.length - (intOf v).toNat)
  case atStart => exact ⟨0, Nat.zero_le _, rfl, rfl, hw0, (Below.refl _ _).alloc (Nat.le_refl _) _⟩
  case round =>
    obtain ⟨i, hi, rfl, rfl, hW, hB⟩ := hrel
    by_cases hlt : i < l0.length
    · have hc : decide ((i : Int) < (l0.length : Int)) = true := decide_eq_true (by omega)
      obtain ⟨ad, hA, hcl0, hcl1⟩ := octw_cell HR0.out hB i hlt
      subst hA
      have hxi := HX.out i hlt
      have hlen := octw_w_len s l0 i
      have hlen2 := octw_w_len s l0 (i + 1)
      have hbd : (7 + s.size) * i ≤ 107 * 30 := Nat.mul_le_mul (by omega) (by omega)
      have hbd2 : (7 + s.size) * (i + 1) ≤ 107 * 30 := Nat.mul_le_mul (by omega) (by omega)
      have hstep : octw_w s l0 (i + 1) = octw_w s l0 i ++ numL (l0.getD i (0, 0)).1 (l0.getD i (0, 0)).2 ++ s.data.toList := rfl
      have hHC := Aside0.mk (fun W (hW : Below w.heap.size w W) => octw_cell HR0.out hW i hlt)
      generalize (l0.getD i (0, 0)).1 = n at *
      generalize (l0.getD i (0, 0)).2 = k at *
      generalize hL' : octw_w s l0 (i + 1) = L' at *
      have HL := Lib.hid hL'
      clear hL'
      generalize octw_w s l0 i = L at *
      have hnb := bounds_i64 hxi.1
      have hkb := bounds_i64 hxi.2
      have hN := octw_num n k (by omega) (by omega) (by omega) (by omega)
      have hMl := numL_len n k
      go_wp2_with fail
      refine start_ (n := 12) (S := fun w' => w'.cell? (ad.add (i * 2)) = some (.int .i64 n) ∧ w'.cell? ⟨(ad.add (i * 2)).block, (ad.add (i * 2)).off + 1, none⟩ = some (.int .i64 k)) (ds := [11]) #[false, false, false, false, false, false, false, false, false, false, false, false] (by kernel_rfl) rfl rfl ⟨hcl0, hcl1⟩ (fun hHeld => ?_); refine with_tabW OctW8.tab8 OctW8.bits8 (fun HT_ HW_ => ?_)
      refine pure_ (i := 0) (N := (some 25)) (v := ?_) (a' := ?_) #[true, false, false, false, false, false, false, false, false, false, false, false] rfl rfl (any_of HT_.out (by kernel_rfl)) (fun _ _ _ h => h) (Or.inl ⟨by rfl, ?_⟩) ?_ ?_
      rotate_left
      · intro w'
        go_simp
        with_reducible rfl
      rotate_left
      · simp only [Act.put, List.setIfInBounds_toArray, List.set_cons_zero, List.set_cons_succ, i64_w, i32_w]
        rfl
      refine pure_ (i := 1) (N := (some 26)) (v := ?_) (a' := ?_) #[true, true, false, false, false, false, false, false, false, false, false, false] rfl rfl (any_of HT_.out (by kernel_rfl)) (fun _ _ _ h => h) (Or.inl ⟨by rfl, ?_⟩) ?_ ?_
      rotate_left
      · intro w'
        go_simp
        with_reducible rfl
      rotate_left
      · simp only [Act.put, List.setIfInBounds_toArray, List.set_cons_zero, List.set_cons_succ, i64_w, i32_w]
        rfl
      refine pure_ (i := 2) (N := (some 27)) (v := ?_) (a' := ?_) #[true, true, true, false, false, false, false, false, false, false, false, false] rfl rfl (any_of HT_.out (by kernel_rfl)) (fun _ _ _ h => h) (Or.inl ⟨by rfl, ?_⟩) ?_ ?_
      rotate_left
      · intro w'
        go_simp
        with_reducible rfl
      rotate_left
      · simp only [Act.put, List.setIfInBounds_toArray, List.set_cons_zero, List.set_cons_succ, i64_w, i32_w]
        rfl
      refine pure_ (i := 3) (N := (some 28)) (v := ?_) (a' := ?_) #[true, true, true, true, false, false, false, false, false, false, false, false] rfl rfl (any_of HT_.out (by kernel_rfl)) (fun _ _ _ h => h) (Or.inl ⟨by rfl, ?_⟩) ?_ ?_
      rotate_left
      · intro w'
        go_simp
        with_reducible rfl
      rotate_left
      · simp only [Act.put, List.setIfInBounds_toArray, List.set_cons_zero, List.set_cons_succ, i64_w, i32_w]
        rfl
      refine pure_ (i := 4) (N := (some 29)) (v := ?_) (a' := ?_) #[true, true, true, true, true, false, false, false, false, false, false, false] rfl rfl (any_of HT_.out (by kernel_rfl)) (fun _ _ _ h => h) (Or.inl ⟨by rfl, ?_⟩) ?_ ?_
      rotate_left
      · intro w'
        go_simp
        with_reducible rfl
      rotate_left
      · simp only [Act.put, List.setIfInBounds_toArray, List.set_cons_zero, List.set_cons_succ, i64_w, i32_w]
        rfl
      refine pure_ (i := 6) (N := (some 31)) (v := ?_) (a' := ?_) #[true, true, true, true, true, false, true, false, false, false, false, false] rfl rfl (any_of HT_.out (by kernel_rfl)) (fun _ _ _ h => h) (Or.inl ⟨by rfl, ?_⟩) ?_ ?_
      rotate_left
      · intro w'
        go_simp
        with_reducible rfl
      rotate_left
      · simp only [Act.put, List.setIfInBounds_toArray, List.set_cons_zero, List.set_cons_succ, i64_w, i32_w]
        rfl
      refine pure_ (i := 7) (N := (some 32)) (v := ?_) (a' := ?_) #[true, true, true, true, true, false, true, true, false, false, false, false] rfl rfl (any_of HT_.out (by kernel_rfl)) (fun _ _ _ h => h) (Or.inl ⟨by rfl, ?_⟩) ?_ ?_
      rotate_left
      · intro w'
        go_simp
        with_reducible rfl
      rotate_left
      · simp only [Act.put, List.setIfInBounds_toArray, List.set_cons_zero, List.set_cons_succ, i64_w, i32_w]
        rfl
      refine pure_ (i := 8) (N := (some 33)) (v := ?_) (a' := ?_) #[true, true, true, true, true, false, true, true, true, false, false, false] rfl rfl (any_of HT_.out (by kernel_rfl)) (fun _ _ _ h => h) (Or.inl ⟨by rfl, ?_⟩) ?_ ?_
      rotate_left
      · intro w'
        go_simp
        with_reducible rfl
      rotate_left
      · simp only [Act.put, List.setIfInBounds_toArray, List.set_cons_zero, List.set_cons_succ, i64_w, i32_w]
        rfl
      refine pure_ (i := 9) (N := (some 34)) (v := ?_) (a' := ?_) #[true, true, true, true, true, false, true, true, true, true, false, false] rfl rfl (any_of HT_.out (by kernel_rfl)) (fun _ _ _ h => h) (Or.inl ⟨by rfl, ?_⟩) ?_ ?_
      rotate_left
      · intro w'
        go_simp
        with_reducible rfl
      rotate_left
      · simp only [Act.put, List.setIfInBounds_toArray, List.set_cons_zero, List.set_cons_succ, i64_w, i32_w]
        rfl
      refine take_ (i := 5) (N := (some 30)) (v := ?_) (a' := ?_) #[true, true, true, true, true, true, true, true, true, true, false, false] rfl rfl (take_ofW HT_.out HW_.out (by kernel_rfl)) (fun _ _ _ h => h) (Or.inl ⟨by rfl, ?_⟩) hHeld ?_ ?_
      rotate_left
      · intro w' hS_
        go_simp
        obtain ⟨hS1, hS2⟩ := hS_; go_simp; with_reducible rfl
      rotate_left
      · simp only [Act.put, List.setIfInBounds_toArray, List.set_cons_zero, List.set_cons_succ, i64_w, i32_w]
        rfl
      refine take_ (i := 10) (N := (some 35)) (v := ?_) (a' := ?_) #[true, true, true, true, true, true, true, true, true, true, true, false] rfl rfl (take_ofW HT_.out HW_.out (by kernel_rfl)) (fun _ _ _ h => h) (Or.inl ⟨by rfl, ?_⟩) hHeld ?_ ?_
      rotate_left
      · intro w' hS_
        go_simp
        obtain ⟨hS1, hS2⟩ := hS_; go_simp; with_reducible rfl
      rotate_left
      · simp only [Act.put, List.setIfInBounds_toArray, List.set_cons_zero, List.set_cons_succ, i64_w, i32_w]
        rfl
      refine last_ (i := 11) (N := (some 36)) #[true, true, true, true, true, true, true, true, true, true, true, true] rfl rfl (one_of HT_.out (by kernel_rfl)) (by decide) (fun K hK => ?_)
      refine goes_ Try.func22 (by kernel_rfl) rfl #[.pointer (some ⟨w.heap.size, 0, none⟩), .int .i64 n, .int .i64 k] (by rfl) rfl rfl (by (try simp only [List.map_toArray, List.map_cons, List.map_nil]); first | done | rfl) ?_
      refine (octw_wnum w.heap.size w.heap.size n k L _ (by omega) (by exact hW) (by omega) (Below.drew hB).size).mono ?_
      rintro e w2 ⟨rfl, hW2, hb2, hk2⟩
      refine ⟨_, rfl, ?_⟩
      refine hK.out _ _ ?_
      clear hK K
      refine norm_ (a' := ?_) ?_ ?_
      rotate_left
      · show Act.put _ (some 36) _ = _
        simp only [Act.put, List.setIfInBounds_toArray, List.set_cons_zero, List.set_cons_succ, i64_w, i32_w]
        rfl
      refine done_ (done_of HT_.out (by kernel_rfl)) ?_
      go_wp2_with fail
      have hB2 := (Below.drew hB).trans hb2
      refine (text_some w.heap.size w.heap.size s _ _ hW2 (by rw [List.length_append]; omega) hB2.size).mono ?_
      rintro e w3 ⟨rfl, hW3, hb3, hk3⟩
      have hB3 := hB2.trans hb3
      obtain ⟨hcl0', hcl1'⟩ := octw_same (hHC.out _ hB3)
      go_wp2_with fail
      refine start_ (n := 16) (S := fun w' => w'.cell? (ad.add (i * 2)) = some (.int .i64 n) ∧ w'.cell? ⟨(ad.add (i * 2)).block, (ad.add (i * 2)).off + 1, none⟩ = some (.int .i64 k)) (ds := []) #[false, false, false, false, false, false, false, false, false, false, false, false, false, false, false, false] (by kernel_rfl) rfl rfl ⟨hcl0', hcl1'⟩ (fun hHeld => ?_); refine with_tabW OctW10.tab10 OctW10.bits10 (fun HT_ HW_ => ?_)
      refine pure_ (i := 0) (N := (some 40)) (v := ?_) (a' := ?_) #[true, false, false, false, false, false, false, false, false, false, false, false, false, false, false, false] rfl rfl (any_of HT_.out (by kernel_rfl)) (fun _ _ _ h => h) (Or.inl ⟨by rfl, ?_⟩) ?_ ?_
      rotate_left
      · intro w'
        go_simp
        with_reducible rfl
      rotate_left
      · simp only [Act.put, List.setIfInBounds_toArray, List.set_cons_zero, List.set_cons_succ, i64_w, i32_w]
        rfl
      refine pure_ (i := 1) (N := (some 41)) (v := ?_) (a' := ?_) #[true, true, false, false, false, false, false, false, false, false, false, false, false, false, false, false] rfl rfl (any_of HT_.out (by kernel_rfl)) (fun _ _ _ h => h) (Or.inl ⟨by rfl, ?_⟩) ?_ ?_
      rotate_left
      · intro w'
        go_simp
        with_reducible rfl
      rotate_left
      · simp only [Act.put, List.setIfInBounds_toArray, List.set_cons_zero, List.set_cons_succ, i64_w, i32_w]
        rfl
      refine pure_ (i := 2) (N := (some 42)) (v := ?_) (a' := ?_) #[true, true, true, false, false, false, false, false, false, false, false, false, false, false, false, false] rfl rfl (any_of HT_.out (by kernel_rfl)) (fun _ _ _ h => h) (Or.inl ⟨by rfl, ?_⟩) ?_ ?_
      rotate_left
      · intro w'
        go_simp
        with_reducible rfl
      rotate_left
      · simp only [Act.put, List.setIfInBounds_toArray, List.set_cons_zero, List.set_cons_succ, i64_w, i32_w]
        rfl
      refine pure_ (i := 3) (N := (some 43)) (v := ?_) (a' := ?_) #[true, true, true, true, false, false, false, false, false, false, false, false, false, false, false, false] rfl rfl (any_of HT_.out (by kernel_rfl)) (fun _ _ _ h => h) (Or.inl ⟨by rfl, ?_⟩) ?_ ?_
      rotate_left
      · intro w'
        go_simp
        with_reducible rfl
      rotate_left
      · simp only [Act.put, List.setIfInBounds_toArray, List.set_cons_zero, List.set_cons_succ, i64_w, i32_w]
        rfl
      refine pure_ (i := 4) (N := (some 44)) (v := ?_) (a' := ?_) #[true, true, true, true, true, false, false, false, false, false, false, false, false, false, false, false] rfl rfl (any_of HT_.out (by kernel_rfl)) (fun _ _ _ h => h) (Or.inl ⟨by rfl, ?_⟩) ?_ ?_
      rotate_left
      · intro w'
        go_simp
        with_reducible rfl
      rotate_left
      · simp only [Act.put, List.setIfInBounds_toArray, List.set_cons_zero, List.set_cons_succ, i64_w, i32_w]
        rfl
      refine pure_ (i := 6) (N := (some 46)) (v := ?_) (a' := ?_) #[true, true, true, true, true, false, true, false, false, false, false, false, false, false, false, false] rfl rfl (any_of HT_.out (by kernel_rfl)) (fun _ _ _ h => h) (Or.inl ⟨by rfl, ?_⟩) ?_ ?_
      rotate_left
      · intro w'
        go_simp
        with_reducible rfl
      rotate_left
      · simp only [Act.put, List.setIfInBounds_toArray, List.set_cons_zero, List.set_cons_succ, i64_w, i32_w]
        rfl
      refine pure_ (i := 7) (N := (some 47)) (v := ?_) (a' := ?_) #[true, true, true, true, true, false, true, true, false, false, false, false, false, false, false, false] rfl rfl (any_of HT_.out (by kernel_rfl)) (fun _ _ _ h => h) (Or.inl ⟨by rfl, ?_⟩) ?_ ?_
      rotate_left
      · intro w'
        go_simp
        with_reducible rfl
      rotate_left
      · simp only [Act.put, List.setIfInBounds_toArray, List.set_cons_zero, List.set_cons_succ, i64_w, i32_w]
        rfl
      refine pure_ (i := 8) (N := (some 48)) (v := ?_) (a' := ?_) #[true, true, true, true, true, false, true, true, true, false, false, false, false, false, false, false] rfl rfl (any_of HT_.out (by kernel_rfl)) (fun _ _ _ h => h) (Or.inl ⟨by rfl, ?_⟩) ?_ ?_
      rotate_left
      · intro w'
        go_simp
        with_reducible rfl
      rotate_left
      · simp only [Act.put, List.setIfInBounds_toArray, List.set_cons_zero, List.set_cons_succ, i64_w, i32_w]
        rfl
      refine pure_ (i := 9) (N := (some 49)) (v := ?_) (a' := ?_) #[true, true, true, true, true, false, true, true, true, true, false, false, false, false, false, false] rfl rfl (any_of HT_.out (by kernel_rfl)) (fun _ _ _ h => h) (Or.inl ⟨by rfl, ?_⟩) ?_ ?_
      rotate_left
      · intro w'
        go_simp
        with_reducible rfl
      rotate_left
      · simp only [Act.put, List.setIfInBounds_toArray, List.set_cons_zero, List.set_cons_succ, i64_w, i32_w]
        rfl
      refine pure_ (i := 13) (N := (some 53)) (v := ?_) (a' := ?_) #[true, true, true, true, true, false, true, true, true, true, false, false, false, true, false, false] rfl rfl (any_of HT_.out (by kernel_rfl)) (fun _ _ _ h => h) (Or.inl ⟨by rfl, ?_⟩) ?_ ?_
      rotate_left
      · intro w'
        go_simp
        with_reducible rfl
      rotate_left
      · simp only [Act.put, List.setIfInBounds_toArray, List.set_cons_zero, List.set_cons_succ, i64_w, i32_w]
        rfl
      refine take_ (i := 5) (N := (some 45)) (v := ?_) (a' := ?_) #[true, true, true, true, true, true, true, true, true, true, false, false, false, true, false, false] rfl rfl (take_ofW HT_.out HW_.out (by kernel_rfl)) (fun _ _ _ h => h) (Or.inl ⟨by rfl, ?_⟩) hHeld ?_ ?_
      rotate_left
      · intro w' hS_
        go_simp
        obtain ⟨hS1, hS2⟩ := hS_; go_simp; with_reducible rfl
      rotate_left
      · simp only [Act.put, List.setIfInBounds_toArray, List.set_cons_zero, List.set_cons_succ, i64_w, i32_w]
        rfl
      refine take_ (i := 10) (N := (some 50)) (v := ?_) (a' := ?_) #[true, true, true, true, true, true, true, true, true, true, true, false, false, true, false, false] rfl rfl (take_ofW HT_.out HW_.out (by kernel_rfl)) (fun _ _ _ h => h) (Or.inl ⟨by rfl, ?_⟩) hHeld ?_ ?_
      rotate_left
      · intro w' hS_
        go_simp
        obtain ⟨hS1, hS2⟩ := hS_; go_simp; with_reducible rfl
      rotate_left
      · simp only [Act.put, List.setIfInBounds_toArray, List.set_cons_zero, List.set_cons_succ, i64_w, i32_w]
        rfl
      refine one_ (i := 11) (N := (some 51)) #[true, true, true, true, true, true, true, true, true, true, true, true, false, true, false, false] rfl rfl (one_of HT_.out (by kernel_rfl)) (by decide) (fun K hK => ?_)
      refine goes_ Try.func25 (by kernel_rfl) rfl #[.int .i64 n, .int .i64 k] (by rfl) rfl rfl (by (try simp only [List.map_toArray, List.map_cons, List.map_nil]); first | done | rfl) ?_
      refine (splicerref02_Num.calls 40 n k _ _ hN).mono ?_
      rintro e w4 ⟨rfl, hb4⟩
      refine ⟨_, rfl, ?_⟩
      refine hK.out _ _ (octw_same (hHC.out _ (below_step (Below.drew hB3) hb4))) (fun hHeld => ?_)
      clear hK K
      refine norm_ (a' := ?_) ?_ ?_
      rotate_left
      · show Act.put _ (some 51) _ = _
        simp only [Act.put, List.setIfInBounds_toArray, List.set_cons_zero, List.set_cons_succ, i64_w, i32_w]
        rfl
      refine pure_ (i := 12) (N := (some 52)) (v := ?_) (a' := ?_) #[true, true, true, true, true, true, true, true, true, true, true, true, true, true, false, false] rfl rfl (any_of HT_.out (by kernel_rfl)) (fun _ _ _ h => h) (Or.inl ⟨by rfl, ?_⟩) ?_ ?_
      rotate_left
      · intro w'
        go_simp
        rw [if_neg (show ¬ 9223372036854775807 < L.length + (numL n k).length by omega), octw_app]
      rotate_left
      · simp only [Act.put, List.setIfInBounds_toArray, List.set_cons_zero, List.set_cons_succ, i64_w, i32_w]
        rfl
      refine pure_ (i := 14) (N := (some 54)) (v := ?_) (a' := ?_) #[true, true, true, true, true, true, true, true, true, true, true, true, true, true, true, false] rfl rfl (any_of HT_.out (by kernel_rfl)) (fun _ _ _ h => h) (Or.inl ⟨by rfl, ?_⟩) ?_ ?_
      rotate_left
      · intro w'
        go_simp
        rw [if_neg (show ¬ 9223372036854775807 < L.length + (numL n k).length + s.size by omega), octw_app2]
      rotate_left
      · simp only [Act.put, List.setIfInBounds_toArray, List.set_cons_zero, List.set_cons_succ, i64_w, i32_w]
        rfl
      refine pure_ (i := 15) (N := (some 6)) (v := ?_) (a' := ?_) #[true, true, true, true, true, true, true, true, true, true, true, true, true, true, true, true] rfl rfl (any_of HT_.out (by kernel_rfl)) (fun _ _ _ h => h) (Or.inl ⟨by rfl, ?_⟩) ?_ ?_
      rotate_left
      · intro w'
        go_simp
        with_reducible rfl
      rotate_left
      · simp only [Act.put, List.setIfInBounds_toArray, List.set_cons_zero, List.set_cons_succ, i64_w, i32_w]
        rfl
      refine done_ (done_of HT_.out (by kernel_rfl)) ?_
      have hW4 : Wr w.heap.size w.heap.size (L ++ numL n k ++ s.data.toList) w4 := Wr.below (show Wr _ _ _ w3.drew from hW3) hb4
      have hB4 := below_step (Below.drew hB3) hb4
      rw [← hstep] at hW4
      rw [← hstep]
      go_wp2_with (go_at_call 26; refine (len_some w.heap.size w.heap.size L' _ hW4).mono ?_; rintro e _ ⟨rfl, rfl⟩)
      go_roundw
      case rel => exact ⟨i + 1, by omega, by go_num, by rw [HL.out, hstep, List.append_assoc], by rw [HL.out]; exact hW4, hB4⟩
      case measure => simp [intOf]; omega
    · obtain rfl : i = l0.length := by omega
      go_wp2_with (first
        | (go_at_call 23; refine (string_some w.heap.size w.heap.size _ _ hW hB.size).mono ?_; rintro e w5 ⟨rfl, hw5, hb5, hk5⟩)
        | (go_at_call 11; refine (splicerlaw02_awake.run _).mono ?_; rintro e w9 ⟨rfl, hb9⟩))
      go_ret
      exact ⟨rfl, below_step (hB.trans hb5) hb9⟩
set_option maxHeartbeats 1000000 in
set_option maxRecDepth 100000 in
theorem octw_long (A0 : Option Addr) (c0 n0 : Nat) (s : ByteArray) (w : World) (hn : 30 < n0 ∨ (n0 ≤ 30 ∧ 100 < s.size)) :
    Calls Try.prog 5 #[.slice A0 n0 c0, .string s] w fun e w' => e = .returned (.bool true) ∧ Below w.heap.size w w' := by
  rcases hn with hn | ⟨hn, hs⟩
  · have hd : decide (30 < (n0 : Int)) = true := decide_eq_true (by omega)
    go_enter Try.func5, Try.ntmps5
    go_wp2_with (go_at_call 11; refine (splicerlaw02_awake.run _).mono ?_; rintro e w1 ⟨rfl, hb⟩)
    go_ret
    exact ⟨rfl, hb⟩
  · have hd : decide (30 < (n0 : Int)) = false := decide_eq_false (by omega)
    have hd2 : decide (100 < (s.size : Int)) = true := decide_eq_true (by omega)
    go_enter Try.func5, Try.ntmps5
    go_wp2_with (go_at_call 11; refine (splicerlaw02_awake.run _).mono ?_; rintro e w1 ⟨rfl, hb⟩)
    go_ret
    exact ⟨rfl, hb⟩
def splicerlaw02_OctetWrites.Pure : Prop := True
theorem splicerlaw02_OctetWrites.walk (_P : splicerlaw02_OctetWrites.Pure) (A0 : Option Addr) (c0 : Nat) (l0 : (List (Int × Int))) (a1 : ByteArray) (w : World) (hr0 : Kd.C (Kd.pair (Kd.int .i64) (Kd.int .i64)) w A0 l0.length l0) (hc0 : l0.length ≤ c0) (wf0 : (fun xs : List (Int × Int) => xs.length ≤ maxLen ∧ ∀ x ∈ xs, (fun x : Int × Int => (fun n : Int => (Lit.int .i64 n).wf = true) x.1 ∧ (fun n : Int => (Lit.int .i64 n).wf = true) x.2) x) l0) (w1 : a1.size ≤ 140737488351232) :
    Calls Try.prog 5 #[.slice A0 l0.length c0, .string a1] w fun e w' => e = .returned (.bool true) ∧ Below w.heap.size w w' := by
  by_cases h1 : l0.length ≤ 30
  · by_cases h2 : a1.size ≤ 100
    · refine octw_run A0 c0 l0 a1 w hr0 hc0 (fun i hi => ?_) h1 h2
      have hm : l0.getD i (0, 0) ∈ l0 := by
        rw [List.getD_eq_getElem?_getD, List.getElem?_eq_getElem hi]
        exact List.getElem_mem hi
      exact wf0.2 _ hm
    · exact octw_long A0 c0 _ a1 w (.inr ⟨h1, by omega⟩)
  · exact octw_long A0 c0 _ a1 w (.inl (by omega))
end

/-! ### splicerlaw02_OctetNobody: function 6 -/
section
open OctW
set_option maxHeartbeats 1000000 in
set_option maxRecDepth 100000 in
theorem octn_bad (w : World) : Calls Try.prog 21 #[.pointer none] w fun e w' => e = .returned (.bool true) ∧ w' = w := by
  go_enter Try.func21, Try.ntmps21
  go_wp2
  go_ret
  exact ⟨rfl, rfl⟩
set_option maxHeartbeats 1000000 in
set_option maxRecDepth 100000 in
theorem octn_text (n : Int) (w : World) : Calls Try.prog 13 #[.pointer none, .int .i64 n] w fun e w' => e = .returned (.string ⟨#[]⟩) ∧ w' = w := by
  go_enter Try.func13, Try.ntmps13
  go_wp2_with (go_at_call 21; refine (octn_bad _).mono ?_; rintro e w1 ⟨rfl, rfl⟩)
  go_ret
  exact ⟨rfl, rfl⟩
set_option maxHeartbeats 1000000 in
set_option maxRecDepth 100000 in
theorem octn_left (w : World) : Calls Try.prog 17 #[.pointer none] w fun e w' => e = .returned (.int .i64 0) ∧ w' = w := by
  go_enter Try.func17, Try.ntmps17
  go_wp2_with (go_at_call 21; refine (octn_bad _).mono ?_; rintro e w1 ⟨rfl, rfl⟩)
  go_ret
  exact ⟨rfl, rfl⟩
set_option maxHeartbeats 1000000 in
set_option maxRecDepth 100000 in
theorem octn_at (w : World) : Calls Try.prog 19 #[.pointer none] w fun e w' => e = .returned (.int .i64 0) ∧ w' = w := by
  go_enter Try.func19, Try.ntmps19
  go_wp2_with (go_at_call 21; refine (octn_bad _).mono ?_; rintro e w1 ⟨rfl, rfl⟩)
  go_ret
  exact ⟨rfl, rfl⟩
set_option maxHeartbeats 1000000 in
set_option maxRecDepth 100000 in
theorem octn_num (k : Int) (w : World) : Calls Try.prog 15 #[.pointer none, .int .i64 k] w fun e w' => e = .returned (.int .i64 0) ∧ Below w.heap.size w w' := by
  obtain ⟨W1, cap, hcv, hrow, hBW, hg⟩ := oct_conv w ⟨#[]⟩
  by_cases h1 : k < 1
  · go_enter Try.func15, Try.ntmps15
    go_wp2_with (go_at_call 13; refine (octn_text _ _).mono ?_; rintro e w1 ⟨rfl, rfl⟩)
    clear hcv
    go_loopw [19, 5] (fun v n wr => v = .int .i64 0 ∧ n = .int .i64 0 ∧ wr = W1) (fun v _ _ => 0)
    case atStart => exact ⟨rfl, rfl, rfl⟩
    case round =>
      obtain ⟨rfl, rfl, rfl⟩ := hrel
      go_wp2
      go_ret
      exact ⟨rfl, hBW⟩
  · by_cases h2 : 7 < k
    · go_enter Try.func15, Try.ntmps15
      go_wp2_with (go_at_call 13; refine (octn_text _ _).mono ?_; rintro e w1 ⟨rfl, rfl⟩)
      clear hcv
      go_loopw [19, 5] (fun v n wr => v = .int .i64 0 ∧ n = .int .i64 0 ∧ wr = W1) (fun v _ _ => 0)
      case atStart => exact ⟨rfl, rfl, rfl⟩
      case round =>
        obtain ⟨rfl, rfl, rfl⟩ := hrel
        go_wp2
        go_ret
        exact ⟨rfl, hBW⟩
    · go_enter Try.func15, Try.ntmps15
      go_wp2_with (go_at_call 13; refine (octn_text _ _).mono ?_; rintro e w1 ⟨rfl, rfl⟩)
      clear hcv
      go_loopw [19, 5] (fun v n wr => v = .int .i64 0 ∧ n = .int .i64 0 ∧ wr = W1) (fun v _ _ => 0)
      case atStart => exact ⟨rfl, rfl, rfl⟩
      case round =>
        obtain ⟨rfl, rfl, rfl⟩ := hrel
        go_wp2
        go_ret
        exact ⟨rfl, hBW⟩
theorem octn_text_f (n : Int) : octet_Reader_Text.f ⟨#[]⟩ 0 false n = some (⟨#[]⟩, ⟨#[]⟩, 0, false) := rfl
theorem octn_num_f (n : Int) : octet_Reader_Num.f ⟨#[]⟩ 0 false n = some (0, ⟨#[]⟩, 0, false) := by
  unfold octet_Reader_Num.f
  rw [octn_text_f]; rfl
def OctnRow (w : World) (gl g : Nat) : Prop := gl ≠ g ∧ w.heap[gl]? = some (.cells #[.pointer none, .pointer (some ⟨g, 0, none⟩)] 24 (0, 0))
theorem OctnRow.below {w w1 : World} {gl g : Nat} (h : OctnRow w gl g) (hb : Below w.heap.size w w1) : OctnRow w1 gl g := ⟨h.1, by rw [hb.block gl (blk_lt h.2)]; exact h.2⟩
theorem OctnRow.keep {w w1 : World} {gl g : Nat} (h : OctnRow w gl g) (hk : KeepBut w w1 g none) : OctnRow w1 gl g := ⟨h.1, by rw [hk.2 gl (blk_lt h.2) h.1 (by simp)]; exact h.2⟩
theorem OctnRow.c0 {w : World} {gl g : Nat} (h : OctnRow w gl g) : w.cell? ⟨gl, 0, none⟩ = some (.pointer none) := (blk_cell h.2 0).trans rfl
theorem OctnRow.c1 {w : World} {gl g : Nat} (h : OctnRow w gl g) : w.cell? ⟨gl, 1, none⟩ = some (.pointer (some ⟨g, 0, none⟩)) := (blk_cell h.2 1).trans rfl
set_option maxHeartbeats 1000000 in
set_option maxRecDepth 100000 in
theorem octn_run (a0 a1 : Int) (w : World) :
    Calls Try.prog 6 #[.int .i64 a0, .int .i64 a1] w fun e w' => e = .returned (.bool true) ∧ Below w.heap.size w w' := by
  go_enter Try.func6, Try.ntmps6
  go_wp2_with (first
    | (go_at_call 22; refine (num_no none a0 a1 _ (.inr rfl)).mono ?_; rintro e w1 ⟨rfl, rfl⟩)
    | (go_at_call 24; refine (text_no _ _).mono ?_; rintro e w1 ⟨rfl, rfl⟩))
  go_loopw [7] (fun v wr => ∃ i : Nat, i ≤ 2 ∧ v = .int .i64 i ∧ OctnRow wr (w1.heap.size + 1) w1.heap.size ∧ IsS53 w1 wr w1.heap.size ⟨#[]⟩ 0 false ∧ Below w1.heap.size w1 wr) (fun v _ => 2 - (intOf v).toNat)
  case atStart =>
    refine ⟨0, by decide, rfl, ⟨by omega, ?_⟩, ⟨?_, Nat.le_refl _⟩, ?_⟩
    · have h := heap_alloc_new (w1.alloc (.cells #[.string ⟨#[]⟩, .int .i64 0, .bool false] 53)) (.cells #[.pointer none, .pointer (some ⟨w1.heap.size, 0, none⟩)] 24)
      rw [World.size_alloc] at h
      exact h
    · exact (heap_alloc_old _ _ (by simp)).trans (heap_alloc_new w1 _)
    · exact ((Below.refl _ _).alloc (Nat.le_refl _) _).alloc (by simp) _
  case round =>
    obtain ⟨i, hi, rfl, hR, hI, hB⟩ := hrel
    have hc0 := hR.c0
    have hd0 := hR.c1
    rcases i with _ | _ | _ | i
    · go_wp2_with (first
    | (go_at_call 15; refine (octn_num a1 _).mono ?_; rintro e w2 ⟨rfl, hb2⟩; have hR2 := hR.below hb2; have hI2 := hI.below hb2; have hB2 := below_step hB hb2; have hc2 := hR2.c0; have hd2 := hR2.c1)
    | (go_at_call 13; refine (octn_text a0 _).mono ?_; rintro e _ ⟨rfl, rfl⟩)
    | (go_at_call 17; refine (octn_left _).mono ?_; rintro e _ ⟨rfl, rfl⟩)
    | (go_at_call 19; refine (octn_at _).mono ?_; rintro e _ ⟨rfl, rfl⟩)
    | (go_at_call 21; refine (octn_bad _).mono ?_; rintro e _ ⟨rfl, rfl⟩))
      go_roundw
      case rel => exact ⟨1, by decide, by go_num, hR2, hI2, hB2⟩
      case measure => simp [intOf]
    · go_wp2_with (first
    | (go_at_call 15; refine (octet_Reader_Num.calls _ _ _ _ a1 0 ⟨#[]⟩ 0 false w1 _ hI hB (octn_num_f a1)).mono ?_; rintro e w2 ⟨rfl, hI2, hB2, hk2⟩; have hR2 := hR.keep hk2; have hc2 := hR2.c0; have hd2 := hR2.c1)
    | (go_at_call 13; refine (octet_Reader_Text.calls _ _ _ _ a0 ⟨#[]⟩ ⟨#[]⟩ 0 false w1 _ hI2 hB2 (octn_text_f a0)).mono ?_; rintro e w3 ⟨rfl, hI3, hB3, hk3⟩; have hR3 := hR2.keep hk3; have hc3 := hR3.c0; have hd3 := hR3.c1)
    | (go_at_call 17; refine (octet_Reader_Left.calls _ _ _ _ 0 ⟨#[]⟩ 0 false w1 _ hI3 hB3 rfl).mono ?_; rintro e w4 ⟨rfl, hI4, hB4, hk4⟩; have hR4 := hR3.keep hk4; have hc4 := hR4.c0; have hd4 := hR4.c1)
    | (go_at_call 19; refine (octet_Reader_At.calls _ _ _ _ 0 ⟨#[]⟩ 0 false w1 _ hI4 hB4 rfl).mono ?_; rintro e w5 ⟨rfl, hI5, hB5, hk5⟩; have hR5 := hR4.keep hk5; have hc5 := hR5.c0; have hd5 := hR5.c1)
    | (go_at_call 21; refine (octet_Reader_Bad.calls _ _ _ _ true ⟨#[]⟩ 0 false w1 _ hI5 hB5 rfl).mono ?_; rintro e w6 ⟨rfl, hI6, hB6, hk6⟩; have hR6 := hR5.keep hk6; have hc6 := hR6.c0; have hd6 := hR6.c1))
      go_roundw
      case rel => exact ⟨2, by decide, by go_num, hR6, hI6, hB6⟩
      case measure => simp [intOf]
    · go_wp2_with (first
        | (go_at_call 26; refine (len_no _).mono ?_; rintro e _ ⟨rfl, rfl⟩)
        | (go_at_call 23; refine (string_no _).mono ?_; rintro e _ ⟨rfl, rfl⟩)
        | (go_at_call 11; refine (splicerlaw02_awake.run _).mono ?_; rintro e w9 ⟨rfl, hb9⟩))
      go_ret
      exact ⟨rfl, below_step hB hb9⟩
    · omega
def splicerlaw02_OctetNobody.Pure : Prop := True
theorem splicerlaw02_OctetNobody.walk (_P : splicerlaw02_OctetNobody.Pure) (a0 : Int) (a1 : Int) (w : World) (w0 : (Lit.int .i64 a0).wf = true) (w1 : (Lit.int .i64 a1).wf = true) :
    Calls Try.prog 6 #[.int .i64 a0, .int .i64 a1] w fun e w' => e = .returned (.bool true) ∧ Below w.heap.size w w' := octn_run a0 a1 w
end

/-! ### gain_may: function 42 -/
def gain_may.f (a0 : Int) : Option (Bool) := if (-64) ≤ a0 then (some (decide (a0 ≤ 32))) else (some false)
set_option maxHeartbeats 8000000 in
set_option maxRecDepth 100000 in
theorem gain_may.calls (a0 : Int) (r : Bool) (w : World) (h : gain_may.f a0 = some r) :
    Calls Try.prog 42 #[.int .i64 a0] w fun e w' => e = .returned (.bool r) ∧ Drawn0 w w' := by
  have H : (if (-64) ≤ a0 then (some (decide (a0 ≤ 32))) else (some false)) = some r := h
  clear h
  by_cases c2 : (-64) ≤ a0
  · rw [if_pos c2] at H
    have c2b0 : decide ((-64) ≤ a0) = true := decide_eq_true c2
    clear c2
    obtain rfl := Option.some.inj H
    go_enter Try.func42, Try.ntmps42
    go_wp2
    go_ret
    exact ⟨by first | rfl | (simp; done) | (simp [*]; done), by repeat (first | exact Drawn0.refl _ | apply Drawn0.step)⟩
  · rw [if_neg c2] at H
    have c2b0 : decide ((-64) ≤ a0) = false := decide_eq_false c2
    clear c2
    obtain rfl := Option.some.inj H
    go_enter Try.func42, Try.ntmps42
    go_wp2
    go_ret
    exact ⟨by first | rfl | (simp; done) | (simp [*]; done), by repeat (first | exact Drawn0.refl _ | apply Drawn0.step)⟩

/-! ### num_within: function 62 -/
def num_within.l0 : Nat → Int → List Int → Int → Int → Option (Bool)
  | 0, _, _, _, _ => none
  | k + 1, x0, x7, x8, x9 => if x9 < x8 then (if 0 ≤ x9 then (if x9 < (x7.length : Int) then (if (rd x7 x9) < (wrap64 (-x0)) then (some false) else (if (rd x7 x9) > x0 then (some false) else (num_within.l0 k x0 x7 x8 (wrap64 (x9 + 1))))) else (none)) else (none)) else (some true)
def num_within.f (k : Nat) (a0 : Int) (l1 : List Int) : Option (Bool) := num_within.l0 k a0 l1 (l1.length : Int) 0
theorem num_within.mono_l : ∀ k, (∀ y0 y1 y2 y3, LeO (num_within.l0 k y0 y1 y2 y3) (num_within.l0 (k + 1) y0 y1 y2 y3))
  | 0 => fun _ _ _ _ r h => by simp [num_within.l0] at h
  | k + 1 => by
    have ih0 := num_within.mono_l k
    · intro y0 y1 y2 y3
      unfold num_within.l0
      repeat' first
      | (with_reducible exact ih0 _ _ _ _)
      | (with_reducible exact LeO.refl _)
      | (with_reducible exact LeO.none _)
      | (with_reducible refine LeO.ite ?_ ?_)
      | (with_reducible refine LeO.bind ?_ (fun _ => ?_))
      | exact ih0 _ _ _ _
      | exact LeO.none _
      | refine LeO.ite ?_ ?_
      | refine LeO.bind ?_ (fun _ => ?_)
theorem num_within.mono : ∀ a0 a1 k, LeO (num_within.f k a0 a1) (num_within.f (k + 1) a0 a1) := by
  intro a0 a1 k
  have ih0 := num_within.mono_l k
  unfold num_within.f
  repeat' first
      | (with_reducible exact ih0 _ _ _ _)
      | (with_reducible exact LeO.refl _)
      | (with_reducible exact LeO.none _)
      | (with_reducible refine LeO.ite ?_ ?_)
      | (with_reducible refine LeO.bind ?_ (fun _ => ?_))
      | exact ih0 _ _ _ _
      | exact LeO.none _
      | refine LeO.ite ?_ ?_
      | refine LeO.bind ?_ (fun _ => ?_)
set_option maxHeartbeats 8000000 in
set_option maxRecDepth 100000 in
theorem num_within.calls (k : Nat) (a0 : Int) (A1 : Option Addr) (c1 : Nat) (l1 : List Int) (r : Bool) (w : World) (hr1 : Kd.C (Kd.int .i64) w A1 l1.length l1) (hc1 : l1.length ≤ c1) (h : num_within.f k a0 l1 = some r) :
    Calls Try.prog 62 #[.int .i64 a0, .slice A1 l1.length c1] w fun e w' => e = .returned (.bool r) ∧ Drawn0 w w' := by
  have HR1 := Aside0.mk hr1
  have HC1 := Aside0.mk hc1
  clear hr1 hc1
  have H : (num_within.l0 k a0 l1 (l1.length : Int) 0) = some r := h
  clear h
  have H' := Aside0.mk H
  clear H
  go_enter Try.func62, Try.ntmps62
  go_wp2
  go_loopg [9] k (fun kq v9 w' => ∃ (x9_1 : Int), v9 = .int .i64 x9_1 ∧ Aside0 (num_within.l0 kq a0 l1 (l1.length : Int) x9_1 = some r) ∧ Aside0 (kq ≤ k) ∧ Drawn0 w w')
  case atStart => exact ⟨(0), (by first | rfl | (simp; done) | (simp [*]; done)), H', ⟨Nat.le_refl _⟩, by repeat (first | exact Drawn0.refl _ | apply Drawn0.step)⟩
  case round =>
    clear H'
    try clear c1
    try clear p2
    obtain ⟨x9_1, rfl, HA, HK1, ⟨m1, rfl⟩⟩ := hrel
    cases gk with
    | zero => exact absurd HA.out (by simp [num_within.l0])
    | succ k1 =>
      have H := HA.out
      clear HA
      simp only [num_within.l0] at H
      by_cases c3 : x9_1 < (l1.length : Int)
      · rw [if_pos c3] at H
        have c3b0 : decide (x9_1 < (l1.length : Int)) = true := decide_eq_true c3
        clear c3
        by_cases c4 : 0 ≤ x9_1
        · rw [if_pos c4] at H
          have c4b0 : decide (0 ≤ x9_1) = true := decide_eq_true c4
          clear c4
          by_cases c5 : x9_1 < (l1.length : Int)
          · rw [if_pos c5] at H
            have c5b0 : decide (x9_1 < (l1.length : Int)) = true := decide_eq_true c5
            clear c5
            by_cases c6 : (rd l1 x9_1) < (wrap64 (-a0))
            · rw [if_pos c6] at H
              have c6b0 : decide ((rd l1 x9_1) < (wrap64 (-a0))) = true := decide_eq_true c6
              clear c6
              obtain rfl := Option.some.inj H
              have p121 : 0 ≤ (x9_1 : Int) := of_decide_eq_true (by first | (with_reducible assumption) | assumption)
              have q121 : x9_1 < (l1.length : Int) := of_decide_eq_true (by first | (with_reducible assumption) | assumption)
              obtain ⟨ad121, e121, hx121_0⟩ := Kd.at_int HR1.out x9_1 p121 q121
              cases e121
              replace p121 := eq_true p121
              replace q121 := eq_true q121
              go_wp2
              go_ret
              exact ⟨by first | rfl | (simp; done) | (simp [*]; done), by repeat (first | exact Drawn0.refl _ | apply Drawn0.step)⟩
            · rw [if_neg c6] at H
              have c6b0 : decide ((rd l1 x9_1) < (wrap64 (-a0))) = false := decide_eq_false c6
              clear c6
              by_cases c7 : (rd l1 x9_1) > a0
              · rw [if_pos c7] at H
                have c7b0 : decide (a0 < (rd l1 x9_1)) = true := decide_eq_true c7
                clear c7
                obtain rfl := Option.some.inj H
                have p121 : 0 ≤ (x9_1 : Int) := of_decide_eq_true (by first | (with_reducible assumption) | assumption)
                have q121 : x9_1 < (l1.length : Int) := of_decide_eq_true (by first | (with_reducible assumption) | assumption)
                obtain ⟨ad121, e121, hx121_0⟩ := Kd.at_int HR1.out x9_1 p121 q121
                cases e121
                replace p121 := eq_true p121
                replace q121 := eq_true q121
                go_wp2
                go_ret
                exact ⟨by first | rfl | (simp; done) | (simp [*]; done), by repeat (first | exact Drawn0.refl _ | apply Drawn0.step)⟩
              · rw [if_neg c7] at H
                have c7b0 : decide (a0 < (rd l1 x9_1)) = false := decide_eq_false c7
                clear c7
                have H' := Aside0.mk H
                clear H
                have p121 : 0 ≤ (x9_1 : Int) := of_decide_eq_true (by first | (with_reducible assumption) | assumption)
                have q121 : x9_1 < (l1.length : Int) := of_decide_eq_true (by first | (with_reducible assumption) | assumption)
                obtain ⟨ad121, e121, hx121_0⟩ := Kd.at_int HR1.out x9_1 p121 q121
                cases e121
                replace p121 := eq_true p121
                replace q121 := eq_true q121
                go_wp2
                go_roundg k1
                case measure => have := HK1.out; omega
                case rel => exact ⟨(wrap64 (x9_1 + 1)), (by first | rfl | (simp; done) | (simp [*]; done)), H', ⟨by have := HK1.out; omega⟩, by repeat (first | exact Drawn0.refl _ | apply Drawn0.step)⟩
          · rw [if_neg c5] at H
            exact absurd H (by simp)
        · rw [if_neg c4] at H
          exact absurd H (by simp)
      · rw [if_neg c3] at H
        have c3b0 : decide (x9_1 < (l1.length : Int)) = false := decide_eq_false c3
        clear c3
        obtain rfl := Option.some.inj H
        go_wp2
        go_ret
        exact ⟨by first | rfl | (simp; done) | (simp [*]; done), by repeat (first | exact Drawn0.refl _ | apply Drawn0.step)⟩

/-! ### num_Mod: function 63 -/
def num_Mod.f (a0 : Int) (a1 : Int) : Option (Int × Int) := if a1 < 1 then (some (0, 0)) else (if a1 = 0 then (none) else (if (Int.tmod a0 a1) < 0 then (if a0 < 0 then (if (wrap64 ((Int.tmod a0 a1) + a1)) > 0 then (some (wrap64 ((wrap64 (Int.tdiv a0 a1)) - 1), wrap64 ((Int.tmod a0 a1) + a1))) else (some (wrap64 (Int.tdiv a0 a1), wrap64 ((Int.tmod a0 a1) + a1)))) else (some (wrap64 (Int.tdiv a0 a1), wrap64 ((Int.tmod a0 a1) + a1)))) else (if a0 < 0 then (if (Int.tmod a0 a1) > 0 then (some (wrap64 ((wrap64 (Int.tdiv a0 a1)) - 1), Int.tmod a0 a1)) else (some (wrap64 (Int.tdiv a0 a1), Int.tmod a0 a1))) else (some (wrap64 (Int.tdiv a0 a1), Int.tmod a0 a1)))))
set_option maxHeartbeats 8000000 in
set_option maxRecDepth 100000 in
theorem num_Mod.calls (a0 : Int) (a1 : Int) (r1 : Int) (r2 : Int) (w : World) (h : num_Mod.f a0 a1 = some (r1, r2)) :
    Calls Try.prog 63 #[.int .i64 a0, .int .i64 a1] w fun e w' => e = .returned (.tuple #[.int .i64 r1, .int .i64 r2]) ∧ Drawn0 w w' := by
  have H : (if a1 < 1 then (some (0, 0)) else (if a1 = 0 then (none) else (if (Int.tmod a0 a1) < 0 then (if a0 < 0 then (if (wrap64 ((Int.tmod a0 a1) + a1)) > 0 then (some (wrap64 ((wrap64 (Int.tdiv a0 a1)) - 1), wrap64 ((Int.tmod a0 a1) + a1))) else (some (wrap64 (Int.tdiv a0 a1), wrap64 ((Int.tmod a0 a1) + a1)))) else (some (wrap64 (Int.tdiv a0 a1), wrap64 ((Int.tmod a0 a1) + a1)))) else (if a0 < 0 then (if (Int.tmod a0 a1) > 0 then (some (wrap64 ((wrap64 (Int.tdiv a0 a1)) - 1), Int.tmod a0 a1)) else (some (wrap64 (Int.tdiv a0 a1), Int.tmod a0 a1))) else (some (wrap64 (Int.tdiv a0 a1), Int.tmod a0 a1)))))) = some (r1, r2) := h
  clear h
  by_cases c3 : a1 < 1
  · rw [if_pos c3] at H
    have c3b0 : decide (a1 < 1) = true := decide_eq_true c3
    clear c3
    simp only [Option.some.injEq, Prod.mk.injEq] at H
    obtain ⟨rfl, rfl⟩ := H
    go_enter Try.func63, Try.ntmps63
    go_wp2
    go_ret2
    exact ⟨by first | rfl | (simp; done) | (simp [*]; done), by repeat (first | exact Drawn0.refl _ | apply Drawn0.step)⟩
  · rw [if_neg c3] at H
    have c3b0 : decide (a1 < 1) = false := decide_eq_false c3
    clear c3
    by_cases c4 : a1 = 0
    · rw [if_pos c4] at H
      exact absurd H (by simp)
    · rw [if_neg c4] at H
      have c4b0 : (a1 == 0) = false := beq_eq_false_iff_ne.mpr c4
      have c4b1 : (a1 != 0) = true := bne_iff_ne.mpr c4
      by_cases c5 : (Int.tmod a0 a1) < 0
      · rw [if_pos c5] at H
        have c5b0 : decide ((Int.tmod a0 a1) < 0) = true := decide_eq_true c5
        clear c5
        by_cases c6 : a0 < 0
        · rw [if_pos c6] at H
          have c6b0 : decide (a0 < 0) = true := decide_eq_true c6
          clear c6
          by_cases c7 : (wrap64 ((Int.tmod a0 a1) + a1)) > 0
          · rw [if_pos c7] at H
            have c7b0 : decide (0 < (wrap64 ((Int.tmod a0 a1) + a1))) = true := decide_eq_true c7
            clear c7
            simp only [Option.some.injEq, Prod.mk.injEq] at H
            obtain ⟨rfl, rfl⟩ := H
            go_enter Try.func63, Try.ntmps63
            go_wp2
            go_ret2
            exact ⟨by first | rfl | (simp; done) | (simp [*]; done), by repeat (first | exact Drawn0.refl _ | apply Drawn0.step)⟩
          · rw [if_neg c7] at H
            have c7b0 : decide (0 < (wrap64 ((Int.tmod a0 a1) + a1))) = false := decide_eq_false c7
            clear c7
            simp only [Option.some.injEq, Prod.mk.injEq] at H
            obtain ⟨rfl, rfl⟩ := H
            go_enter Try.func63, Try.ntmps63
            go_wp2
            go_ret2
            exact ⟨by first | rfl | (simp; done) | (simp [*]; done), by repeat (first | exact Drawn0.refl _ | apply Drawn0.step)⟩
        · rw [if_neg c6] at H
          have c6b0 : decide (a0 < 0) = false := decide_eq_false c6
          clear c6
          simp only [Option.some.injEq, Prod.mk.injEq] at H
          obtain ⟨rfl, rfl⟩ := H
          go_enter Try.func63, Try.ntmps63
          go_wp2
          go_ret2
          exact ⟨by first | rfl | (simp; done) | (simp [*]; done), by repeat (first | exact Drawn0.refl _ | apply Drawn0.step)⟩
      · rw [if_neg c5] at H
        have c5b0 : decide ((Int.tmod a0 a1) < 0) = false := decide_eq_false c5
        clear c5
        by_cases c8 : a0 < 0
        · rw [if_pos c8] at H
          have c8b0 : decide (a0 < 0) = true := decide_eq_true c8
          clear c8
          by_cases c9 : (Int.tmod a0 a1) > 0
          · rw [if_pos c9] at H
            have c9b0 : decide (0 < (Int.tmod a0 a1)) = true := decide_eq_true c9
            clear c9
            simp only [Option.some.injEq, Prod.mk.injEq] at H
            obtain ⟨rfl, rfl⟩ := H
            go_enter Try.func63, Try.ntmps63
            go_wp2
            go_ret2
            exact ⟨by first | rfl | (simp; done) | (simp [*]; done), by repeat (first | exact Drawn0.refl _ | apply Drawn0.step)⟩
          · rw [if_neg c9] at H
            have c9b0 : decide (0 < (Int.tmod a0 a1)) = false := decide_eq_false c9
            clear c9
            simp only [Option.some.injEq, Prod.mk.injEq] at H
            obtain ⟨rfl, rfl⟩ := H
            go_enter Try.func63, Try.ntmps63
            go_wp2
            go_ret2
            exact ⟨by first | rfl | (simp; done) | (simp [*]; done), by repeat (first | exact Drawn0.refl _ | apply Drawn0.step)⟩
        · rw [if_neg c8] at H
          have c8b0 : decide (a0 < 0) = false := decide_eq_false c8
          clear c8
          simp only [Option.some.injEq, Prod.mk.injEq] at H
          obtain ⟨rfl, rfl⟩ := H
          go_enter Try.func63, Try.ntmps63
          go_wp2
          go_ret2
          exact ⟨by first | rfl | (simp; done) | (simp [*]; done), by repeat (first | exact Drawn0.refl _ | apply Drawn0.step)⟩

end Go.Proofs.Ytaoodgijapiipaa.S
