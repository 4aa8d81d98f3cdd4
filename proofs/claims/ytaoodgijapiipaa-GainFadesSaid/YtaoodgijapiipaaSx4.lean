-- Written for this claim by a program of the session (myprint.py), out of the translation's own print; Lean checks it.
import Derived.Test.YtaoodgijapiipaaSx0
import Derived.Test.YtaoodgijapiipaaSx1
namespace Go.Proofs.Ytaoodgijapiipaa.S
open Go.RowKit Go.Proofs.YtaoodgijapiipaaW.PrintWords Go.Proofs.YtaoodgijapiipaaW.PrintLast Go.Proofs.YtaoodgijapiipaaW.PrintMore
attribute [local go_sem] max2_int min2_int max_two min_two max_three min_three max_four min_four   -- for this text's walks alone
set_option linter.unusedVariables false
set_option linter.unusedSimpArgs false

/-! ### splicerlaw02_OctetBack: function 4 -/
section
open OctW
def OctBack8.T8 : Bool × List (List Nat × List Nat) := (true, [([], []), ([], []), ([], []), ([1, 2], [1, 2]), ([3], [3]), ([], []), ([5], [5]), ([6], [6]), ([4, 7], [4, 7]), ([8], [8]), ([], []), ([0, 9, 10], [0, 9, 10])])
def OctBack8.B8 : List Nat := [0, 0, 0, 6, 14, 0, 32, 96, 254, 510, 0, 2047]
theorem OctBack8.tab8 : rtab .any (opsOf Try.f4 8) = OctBack8.T8 := by kernel_rfl
theorem OctBack8.bits8 : waitsOk OctBack8.T8.2 OctBack8.B8 = true := by kernel_rfl
/- 0:move>24; 1:move>25; 2:move>26; 3:indexAddr>27; 4:load>28; 5:move>29; 6:binOp>30; 7:binOp>31; 8:binOp>32; 9:convert>33; 10:move>34; 11:call>35 -/
def OctBack14.T14 : Bool × List (List Nat × List Nat) := (true, [([], []), ([], []), ([0, 1], [0, 1]), ([], []), ([], []), ([3, 4], [3, 4]), ([5], [5]), ([], []), ([7], [7]), ([8], [8]), ([6, 9], [6, 9]), ([10], [10]), ([2, 11], [2, 11])])
def OctBack14.B14 : List Nat := [0, 0, 3, 0, 0, 24, 56, 0, 128, 384, 1016, 2040, 4095]
theorem OctBack14.tab14 : rtab .any (opsOf Try.f4 14) = OctBack14.T14 := by kernel_rfl
theorem OctBack14.bits14 : waitsOk OctBack14.T14.2 OctBack14.B14 = true := by kernel_rfl
/- 0:move>48; 1:move>49; 2:call>50; 3:move>51; 4:move>52; 5:indexAddr>53; 6:load>54; 7:move>55; 8:binOp>56; 9:binOp>57; 10:binOp>58; 11:convert>59; 12:binOp>60 -/
def octb_k (i : Nat) : Nat := 1 + i % 7
def octb_x (l : List Int) (i : Nat) : Nat := (rd l i).toNat % 256 ^ octb_k i
def octb_w (l : List Int) : Nat → List UInt8
  | 0 => []
  | i + 1 => octb_w l i ++ beN (octb_x l i) (octb_k i)
theorem octb_k_range (i : Nat) : 1 ≤ octb_k i ∧ octb_k i ≤ 7 := by unfold octb_k; omega
theorem octb_w_len (l : List Int) (i : Nat) : (octb_w l i).length ≤ 7 * i := by
  induction i with
  | zero => exact Nat.zero_le _
  | succ i ih => have := octb_k_range i; show (octb_w l i ++ _).length ≤ _; rw [List.length_append, beN_length]; omega
theorem octb_num (l : List Int) (i : Nat) : numL (octb_x l i : Nat) (octb_k i : Nat) = beN (octb_x l i) (octb_k i) := by
  have h := octb_k_range i
  unfold octb_x
  rw [numL, if_pos ((fits_iff _ _ h.1 h.2).2 (Nat.div_eq_of_lt (Nat.mod_lt _ (Nat.pow_pos (by decide))))), Int.toNat_natCast, Int.toNat_natCast]
theorem octb_pow (k : Nat) (hk : k ≤ 7) : 256 ^ k ≤ 72057594037927936 := Nat.le_trans (Nat.pow_le_pow_right (by decide) hk) (by decide)
theorem octb_shl (k : Nat) (hk : k ≤ 7) : IntKind.u64.wrap (2 ^ (8 * (k : Int)).toNat) = ((256 ^ k : Nat) : Int) := by
  have h := octb_pow k hk
  rw [show (8 * (k : Int)).toNat = 8 * k by omega, pow8, IntKind.wrap_u64]
  generalize 256 ^ k = p at *
  omega
theorem octb_len (i : Nat) (h : i < 30) : 1 + (i : Int) % 7 = (octb_k i : Nat) ∧ IntKind.i64.wrap (8 * ((octb_k i : Nat) : Int)) = ((8 * octb_k i : Nat) : Int) := by
  have := octb_k_range i
  refine ⟨?_, ?_⟩
  · unfold octb_k; omega
  · rw [i64_w]; unfold wrap64; omega
def octb_s (l : List Int) : Nat → Nat → List UInt8
  | _, 0 => []
  | i, d + 1 => beN (octb_x l i) (octb_k i) ++ octb_s l (i + 1) d
theorem octb_ws (l : List Int) (d : Nat) : ∀ i, octb_w l i ++ octb_s l i d = octb_w l (i + d) := by
  induction d with
  | zero => intro i; exact List.append_nil _
  | succ d ih =>
    intro i
    have := ih (i + 1)
    rw [show i + (d + 1) = i + 1 + d by omega, ← this]
    show _ ++ (_ ++ _) = (_ ++ _) ++ _
    rw [List.append_assoc]
theorem octb_cell {w w' : World} {ad : Addr} {l : List Int} (h : Kd.C (Kd.int .u64) w (some ad) l.length l) (hb : Below w.heap.size w w') (i : Nat) (hi : i < l.length) : w'.cell? (ad.add i) = some (.int .u64 (rd l i)) := by
  obtain ⟨a, ha, hc⟩ := Kd.at_int (Kd.C_below h hb) (i : Int) (by omega) (by omega)
  cases ha
  rwa [Int.toNat_natCast] at hc
theorem octb_val (x k : Nat) : beVal (beN x k) = x % 256 ^ k := by
  suffices h : ∀ a, (beN x k).foldl (fun n b => n * 256 + b.toNat) a = a * 256 ^ k + x % 256 ^ k by
    have := h 0
    rw [Nat.zero_mul, Nat.zero_add] at this
    exact this
  induction k with
  | zero => intro a; show a = a * 1 + x % 1; omega
  | succ k ih =>
    intro a
    show (beN x k).foldl _ (a * 256 + (UInt8.ofNat (x / 256 ^ k % 256)).toNat) = _
    rw [ih, UInt8.toNat_ofNat', show x / 256 ^ k % 256 % 2 ^ 8 = x / 256 ^ k % 256 by omega, Nat.pow_succ, Nat.mod_mul, Nat.add_mul, Nat.mul_assoc, Nat.mul_comm 256 (256 ^ k), Nat.mul_comm (x / 256 ^ k % 256) (256 ^ k), Nat.add_assoc, Nat.add_comm (x % 256 ^ k)]
theorem octb_take (l r : List UInt8) (k : Nat) (h : l.length = k) : (⟨(l ++ r).toArray⟩ : ByteArray).extract 0 k = ⟨l.toArray⟩ := by
  subst h
  apply ByteArray.ext
  simp
theorem octb_drop (l r : List UInt8) (k : Nat) (h : l.length = k) : (⟨(l ++ r).toArray⟩ : ByteArray).extract k (⟨(l ++ r).toArray⟩ : ByteArray).size = ⟨r.toArray⟩ := by
  subst h
  apply ByteArray.ext
  simp
  refine List.take_of_length_le ?_
  show r.length ≤ (l ++ r).toArray.size - l.length
  simp
theorem octb_read (x k : Nat) (sz : Int) (r : List UInt8) (h1 : 1 ≤ k) (h7 : k ≤ 7) (hx : x < 256 ^ k) : octet_Reader_Num.f ⟨(beN x k ++ r).toArray⟩ sz true k = some ((x : Int), ⟨r.toArray⟩, sz, true) := by
  have hs : (⟨(beN x k ++ r).toArray⟩ : ByteArray).size = k + r.length := by
    show (beN x k ++ r).toArray.size = _
    simp [beN_length]
  unfold octet_Reader_Num.f octet_Reader_Text.f octet_Reader_Bad.f
  simp only [Option.bind_some, if_neg (show ¬ ((k : Int) < 1 ∨ 7 < (k : Int)) by omega)]
  rw [if_neg (by decide), if_neg (by omega), if_neg (by rw [hs]; omega), if_pos (by omega), if_pos (by rw [hs]; omega)]
  simp only [Option.bind_some, Int.toNat_natCast]
  rw [octb_take _ _ k (beN_length x k), octb_drop _ _ k (beN_length x k)]
  show some (((beVal (beN x k) : Nat) : Int), _, _, _) = _
  rw [octb_val, Nat.mod_eq_of_lt hx]
set_option maxHeartbeats 2000000 in
set_option maxRecDepth 100000 in
theorem octb_run (A0 : Option Addr) (c0 : Nat) (l0 : List Int) (w : World) (hr0 : Kd.C (Kd.int .u64) w A0 l0.length l0) (hc0 : l0.length ≤ c0) (hx : ∀ i : Nat, i < l0.length → 0 ≤ rd l0 i ∧ rd l0 i < 18446744073709551616) (hn : l0.length ≤ 30) :
    Calls Try.prog 4 #[.slice A0 l0.length c0] w fun e w' => e = .returned (.bool true) ∧ Below w.heap.size w w' := by
  have hw0 := wr_new w.heap.size w (Nat.le_refl _)
  have hd : decide (30 < (l0.length : Int)) = false := by rw [decide_eq_false_iff_not]; omega
  have HR0 := Aside0.mk hr0
  have HX := Aside0.mk hx
  clear hr0 hx
  go_enter Try.func4, Try.ntmps4
  go_wp2_with fail
  go_loopw [4, 5] (fun v _ wr => ∃ i : Nat, i ≤ l0.length ∧ v = .int .i64 i ∧ Wr w.heap.size w.heap.size (octb_w l0 i) wr ∧ Below w.heap.size w wr) (fun v _ _ => l0.length - (intOf v).toNat)
  case atStart => exact ⟨0, Nat.zero_le _, rfl, hw0, (Below.refl _ _).alloc (Nat.le_refl _) _⟩
  case round =>
    obtain ⟨i, hi, rfl, hW, hB⟩ := hrel
    by_cases hlt : i < l0.length
    · obtain ⟨e7, e8⟩ := octb_len i (by omega)
      have hc : decide ((i : Int) < (l0.length : Int)) = true := decide_eq_true (by omega)
      obtain ⟨ad, hA, hcl⟩ := Kd.at_int (Kd.C_below HR0.out hB) (i : Int) (by omega) (by omega)
      subst hA
      rw [Int.toNat_natCast] at hcl
      have hcl' := hcl
      have hk := octb_k_range i
      have hxi := HX.out i hlt
      have hlen := octb_w_len l0 i
      have hxx : octb_x l0 i = (rd l0 i).toNat % 256 ^ octb_k i := rfl
      have hnum := octb_num l0 i
      have hws : octb_w l0 (i + 1) = octb_w l0 i ++ beN (octb_x l0 i) (octb_k i) := rfl
      generalize octb_w l0 i = L at *
      generalize octb_x l0 i = X at *
      have hshl := octb_shl (octb_k i) hk.2
      generalize octb_k i = kk at *
      have hp7 := octb_pow kk hk.2
      have hp0 : 0 < 256 ^ kk := Nat.pow_pos (by decide)
      generalize 256 ^ kk = P at *
      have hX : X < P := by rw [hxx]; exact Nat.mod_lt _ hp0
      have hPz : ((P : Int) == 0) = false := by rw [beq_eq_false_iff_ne]; omega
      have hrem : (rd l0 i).tmod (P : Int) = (X : Int) := by
        rw [hxx, Int.tmod_eq_emod_of_nonneg hxi.1, Int.natCast_emod, Int.toNat_of_nonneg hxi.1]
      have HXW := Aside0.mk (show IntKind.i64.wrap (X : Int) = (X : Int) by rw [i64_w]; unfold wrap64; omega)
      have HP0 := Aside0.mk (show ¬ P = 0 by omega)
      have HREM := Aside0.mk hrem
      clear hrem hxx
      have E7 := Aside0.mk e7
      have E8 := Aside0.mk e8
      have HSH := Aside0.mk hshl
      clear e7 e8 hshl
      rw [← hnum] at hws
      go_wp2_with fail
      rw [E7.out]
      refine start_ (n := 12) (S := fun w' => Wr w.heap.size w.heap.size L w' ∧ Below w.heap.size w w' ∧ w'.cell? (ad.add i) = some (.int .u64 (rd l0 i))) (ds := [11]) #[false, false, false, false, false, false, false, false, false, false, false, false] (by kernel_rfl) rfl rfl ⟨hW, hB.drew, hcl⟩ (fun hHeld => ?_); refine with_tabW OctBack8.tab8 OctBack8.bits8 (fun HT_ HW_ => ?_)
      refine pure_ (i := 0) (N := (some 24)) (v := ?_) (a' := ?_) #[true, false, false, false, false, false, false, false, false, false, false, false] rfl rfl (any_of HT_.out (by kernel_rfl)) (fun _ _ _ h => h) (Or.inl ⟨by rfl, ?_⟩) ?_ ?_
      rotate_left
      · intro w'
        go_simp
        with_reducible rfl
      rotate_left
      · simp only [Act.put, List.setIfInBounds_toArray, List.set_cons_zero, List.set_cons_succ, i64_w, i32_w]
        rfl
      refine pure_ (i := 1) (N := (some 25)) (v := ?_) (a' := ?_) #[true, true, false, false, false, false, false, false, false, false, false, false] rfl rfl (any_of HT_.out (by kernel_rfl)) (fun _ _ _ h => h) (Or.inl ⟨by rfl, ?_⟩) ?_ ?_
      rotate_left
      · intro w'
        go_simp
        with_reducible rfl
      rotate_left
      · simp only [Act.put, List.setIfInBounds_toArray, List.set_cons_zero, List.set_cons_succ, i64_w, i32_w]
        rfl
      refine pure_ (i := 2) (N := (some 26)) (v := ?_) (a' := ?_) #[true, true, true, false, false, false, false, false, false, false, false, false] rfl rfl (any_of HT_.out (by kernel_rfl)) (fun _ _ _ h => h) (Or.inl ⟨by rfl, ?_⟩) ?_ ?_
      rotate_left
      · intro w'
        go_simp
        with_reducible rfl
      rotate_left
      · simp only [Act.put, List.setIfInBounds_toArray, List.set_cons_zero, List.set_cons_succ, i64_w, i32_w]
        rfl
      refine pure_ (i := 3) (N := (some 27)) (v := ?_) (a' := ?_) #[true, true, true, true, false, false, false, false, false, false, false, false] rfl rfl (any_of HT_.out (by kernel_rfl)) (fun _ _ _ h => h) (Or.inl ⟨by rfl, ?_⟩) ?_ ?_
      rotate_left
      · intro w'
        go_simp
        with_reducible rfl
      rotate_left
      · simp only [Act.put, List.setIfInBounds_toArray, List.set_cons_zero, List.set_cons_succ, i64_w, i32_w]
        rfl
      refine pure_ (i := 5) (N := (some 29)) (v := ?_) (a' := ?_) #[true, true, true, true, false, true, false, false, false, false, false, false] rfl rfl (any_of HT_.out (by kernel_rfl)) (fun _ _ _ h => h) (Or.inl ⟨by rfl, ?_⟩) ?_ ?_
      rotate_left
      · intro w'
        go_simp
        with_reducible rfl
      rotate_left
      · simp only [Act.put, List.setIfInBounds_toArray, List.set_cons_zero, List.set_cons_succ, i64_w, i32_w]
        rfl
      refine pure_ (i := 6) (N := (some 30)) (v := ?_) (a' := ?_) #[true, true, true, true, false, true, true, false, false, false, false, false] rfl rfl (any_of HT_.out (by kernel_rfl)) (fun _ _ _ h => h) (Or.inl ⟨by rfl, ?_⟩) ?_ ?_
      rotate_left
      · intro w'
        go_simp
        rw [E8.out]
      rotate_left
      · simp only [Act.put, List.setIfInBounds_toArray, List.set_cons_zero, List.set_cons_succ, i64_w, i32_w]
        rfl
      refine pure_ (i := 7) (N := (some 31)) (v := ?_) (a' := ?_) #[true, true, true, true, false, true, true, true, false, false, false, false] rfl rfl (any_of HT_.out (by kernel_rfl)) (fun _ _ _ h => h) (Or.inl ⟨by rfl, ?_⟩) ?_ ?_
      rotate_left
      · intro w'
        go_simp
        rw [HSH.out]
      rotate_left
      · simp only [Act.put, List.setIfInBounds_toArray, List.set_cons_zero, List.set_cons_succ, i64_w, i32_w]
        rfl
      refine pure_ (i := 10) (N := (some 34)) (v := ?_) (a' := ?_) #[true, true, true, true, false, true, true, true, false, false, true, false] rfl rfl (any_of HT_.out (by kernel_rfl)) (fun _ _ _ h => h) (Or.inl ⟨by rfl, ?_⟩) ?_ ?_
      rotate_left
      · intro w'
        go_simp
        with_reducible rfl
      rotate_left
      · simp only [Act.put, List.setIfInBounds_toArray, List.set_cons_zero, List.set_cons_succ, i64_w, i32_w]
        rfl
      refine take_ (i := 4) (N := (some 28)) (v := ?_) (a' := ?_) #[true, true, true, true, true, true, true, true, false, false, true, false] rfl rfl (take_ofW HT_.out HW_.out (by kernel_rfl)) (fun _ _ _ h => h) (Or.inl ⟨by rfl, ?_⟩) hHeld ?_ ?_
      rotate_left
      · intro w' hS_
        go_simp
        obtain ⟨hS1, hS2, hS3⟩ := hS_; go_simp; with_reducible rfl
      rotate_left
      · simp only [Act.put, List.setIfInBounds_toArray, List.set_cons_zero, List.set_cons_succ, i64_w, i32_w]
        rfl
      refine pure_ (i := 8) (N := (some 32)) (v := ?_) (a' := ?_) #[true, true, true, true, true, true, true, true, true, false, true, false] rfl rfl (any_of HT_.out (by kernel_rfl)) (fun _ _ _ h => h) (Or.inl ⟨by rfl, ?_⟩) ?_ ?_
      rotate_left
      · intro w'
        go_simp
        rw [if_neg HP0.out, HREM.out]
      rotate_left
      · simp only [Act.put, List.setIfInBounds_toArray, List.set_cons_zero, List.set_cons_succ, i64_w, i32_w]
        rfl
      refine pure_ (i := 9) (N := (some 33)) (v := ?_) (a' := ?_) #[true, true, true, true, true, true, true, true, true, true, true, false] rfl rfl (any_of HT_.out (by kernel_rfl)) (fun _ _ _ h => h) (Or.inl ⟨by rfl, ?_⟩) ?_ ?_
      rotate_left
      · intro w'
        go_simp
        rw [HXW.out]
      rotate_left
      · simp only [Act.put, List.setIfInBounds_toArray, List.set_cons_zero, List.set_cons_succ, i64_w, i32_w]
        rfl
      refine last_ (i := 11) (N := (some 35)) #[true, true, true, true, true, true, true, true, true, true, true, true] rfl rfl (one_of HT_.out (by kernel_rfl)) (by decide) (fun K hK => ?_)
      refine goes_ Try.func22 (by kernel_rfl) rfl #[.pointer (some ⟨w.heap.size, 0, none⟩), .int .i64 (X : Nat), .int .i64 (kk : Nat)] (by rfl) rfl rfl (by (try simp only [List.map_toArray, List.map_cons, List.map_nil]); first | done | rfl) ?_
      refine (num_some w.heap.size w.heap.size X kk L _ hk.1 hk.2 (by omega) hHeld.1 (by omega) hHeld.2.1.size).mono ?_
      rintro e w2 ⟨rfl, hW2, hb2, hk2⟩
      refine ⟨_, rfl, ?_⟩
      refine hK.out _ _ ?_
      clear hK K
      refine norm_ (a' := ?_) ?_ ?_
      rotate_left
      · show Act.put _ (some 35) _ = _
        simp only [Act.put, List.setIfInBounds_toArray, List.set_cons_zero, List.set_cons_succ, i64_w, i32_w]
        rfl
      refine done_ (done_of HT_.out (by kernel_rfl)) ?_
      go_wp2
      go_roundw
      case rel => exact ⟨i + 1, by omega, by go_num, by rw [hws]; exact hW2, (Below.drew hB).trans hb2⟩
      case measure => simp [intOf]; omega
    · obtain rfl : i = l0.length := by omega
      clear hi hlt
      have hs0 := octb_ws l0 l0.length 0
      rw [Nat.zero_add] at hs0
      rw [← hs0] at hW
      clear hs0
      go_wp2_with (first
        | (go_at_call 23; refine (string_some w.heap.size w.heap.size _ _ hW hB.size).mono ?_; rintro e w3 ⟨rfl, hw3, hb3, hk3⟩; have hB3 := hB.trans hb3)
        | (go_at_call 12; refine (octet_New.calls _ _ _ _ w _ hB3 rfl).mono ?_; rintro e w4 ⟨g, rfl, hI4, hb4, hc4⟩))
      generalize ((⟨(octb_w l0 0 ++ octb_s l0 0 l0.length).toArray⟩ : ByteArray).size : Int) = SZ at *
      clear hW hB hB3 hb3 hk3 hw3 hc4
      go_loopw [7, 8] (fun v _ wr => ∃ j d : Nat, j + d = l0.length ∧ v = .int .i64 j ∧ IsS53 w wr g ⟨(octb_s l0 j d).toArray⟩ SZ true ∧ Below w.heap.size w wr) (fun v _ _ => l0.length - (intOf v).toNat)
      case atStart => exact ⟨0, l0.length, by omega, rfl, hI4, hb4⟩
      case round =>
        clear hI4 hb4
        obtain ⟨i, d, hid, rfl, hI, hB⟩ := hrel
        rcases d with _ | d
        · obtain rfl : i = l0.length := by omega
          have hI' : IsS53 w _ g ⟨#[]⟩ SZ true := hI
          go_wp2_with (first
            | (go_at_call 17; refine (octet_Reader_Left.calls g ⟨#[]⟩ SZ true 0 ⟨#[]⟩ SZ true w _ hI' hB rfl).mono ?_; rintro e w5 ⟨rfl, hI5, hb5, hk5⟩)
            | (go_at_call 21; refine (octet_Reader_Bad.calls g ⟨#[]⟩ SZ true false ⟨#[]⟩ SZ true w _ hI5 hb5 rfl).mono ?_; rintro e w6 ⟨rfl, hI6, hb6, hk6⟩)
            | (go_at_call 11; refine (splicerlaw02_awake.run _).mono ?_; rintro e w9 ⟨rfl, hb9⟩))
          go_ret
          exact ⟨rfl, below_step hb6 hb9⟩
        · have hlt : i < l0.length := by omega
          obtain ⟨e7, e8⟩ := octb_len i (by omega)
          have hc : decide ((i : Int) < (l0.length : Int)) = true := decide_eq_true (by omega)
          obtain ⟨ad, hA, _⟩ := Kd.at_int HR0.out (i : Int) (by omega) (by omega)
          subst hA
          have hcl := octb_cell HR0.out hB i hlt
          have hk := octb_k_range i
          have hxi := HX.out i hlt
          have hxx : octb_x l0 i = (rd l0 i).toNat % 256 ^ octb_k i := rfl
          have hnum := octb_read (octb_x l0 i) (octb_k i) SZ (octb_s l0 (i + 1) d) hk.1 hk.2 (Nat.mod_lt _ (Nat.pow_pos (by decide)))
          have hss : octb_s l0 i (d + 1) = beN (octb_x l0 i) (octb_k i) ++ octb_s l0 (i + 1) d := rfl
          rw [← hss] at hnum
          clear hss
          generalize octb_x l0 i = X at *
          have hshl := octb_shl (octb_k i) hk.2
          generalize octb_k i = kk at *
          have hp7 := octb_pow kk hk.2
          have hp0 : 0 < 256 ^ kk := Nat.pow_pos (by decide)
          generalize 256 ^ kk = P at *
          have hX : X < P := by rw [hxx]; exact Nat.mod_lt _ hp0
          have hrem : (rd l0 i).tmod (P : Int) = (X : Int) := by
            rw [hxx, Int.tmod_eq_emod_of_nonneg hxi.1, Int.natCast_emod, Int.toNat_of_nonneg hxi.1]
          have HXW := Aside0.mk (show IntKind.i64.wrap (X : Int) = (X : Int) by rw [i64_w]; unfold wrap64; omega)
          have HP0 := Aside0.mk (show ¬ P = 0 by omega)
          have HREM := Aside0.mk hrem
          clear hrem hxx
          have E7 := Aside0.mk e7
          have E8 := Aside0.mk e8
          have HSH := Aside0.mk hshl
          clear e7 e8 hshl
          go_wp2_with fail
          rw [E7.out]
          refine start_ (n := 13) (S := fun w' => w'.cell? (ad.add i) = some (.int .u64 (rd l0 i))) (ds := []) #[false, false, false, false, false, false, false, false, false, false, false, false, false] (by kernel_rfl) rfl rfl hcl (fun hHeld => ?_); refine with_tabW OctBack14.tab14 OctBack14.bits14 (fun HT_ HW_ => ?_)
          refine pure_ (i := 0) (N := (some 48)) (v := ?_) (a' := ?_) #[true, false, false, false, false, false, false, false, false, false, false, false, false] rfl rfl (any_of HT_.out (by kernel_rfl)) (fun _ _ _ h => h) (Or.inl ⟨by rfl, ?_⟩) ?_ ?_
          rotate_left
          · intro w'
            go_simp
            with_reducible rfl
          rotate_left
          · simp only [Act.put, List.setIfInBounds_toArray, List.set_cons_zero, List.set_cons_succ, i64_w, i32_w]
            rfl
          refine pure_ (i := 1) (N := (some 49)) (v := ?_) (a' := ?_) #[true, true, false, false, false, false, false, false, false, false, false, false, false] rfl rfl (any_of HT_.out (by kernel_rfl)) (fun _ _ _ h => h) (Or.inl ⟨by rfl, ?_⟩) ?_ ?_
          rotate_left
          · intro w'
            go_simp
            with_reducible rfl
          rotate_left
          · simp only [Act.put, List.setIfInBounds_toArray, List.set_cons_zero, List.set_cons_succ, i64_w, i32_w]
            rfl
          refine pure_ (i := 3) (N := (some 51)) (v := ?_) (a' := ?_) #[true, true, false, true, false, false, false, false, false, false, false, false, false] rfl rfl (any_of HT_.out (by kernel_rfl)) (fun _ _ _ h => h) (Or.inl ⟨by rfl, ?_⟩) ?_ ?_
          rotate_left
          · intro w'
            go_simp
            with_reducible rfl
          rotate_left
          · simp only [Act.put, List.setIfInBounds_toArray, List.set_cons_zero, List.set_cons_succ, i64_w, i32_w]
            rfl
          refine pure_ (i := 4) (N := (some 52)) (v := ?_) (a' := ?_) #[true, true, false, true, true, false, false, false, false, false, false, false, false] rfl rfl (any_of HT_.out (by kernel_rfl)) (fun _ _ _ h => h) (Or.inl ⟨by rfl, ?_⟩) ?_ ?_
          rotate_left
          · intro w'
            go_simp
            with_reducible rfl
          rotate_left
          · simp only [Act.put, List.setIfInBounds_toArray, List.set_cons_zero, List.set_cons_succ, i64_w, i32_w]
            rfl
          refine pure_ (i := 5) (N := (some 53)) (v := ?_) (a' := ?_) #[true, true, false, true, true, true, false, false, false, false, false, false, false] rfl rfl (any_of HT_.out (by kernel_rfl)) (fun _ _ _ h => h) (Or.inl ⟨by rfl, ?_⟩) ?_ ?_
          rotate_left
          · intro w'
            go_simp
            with_reducible rfl
          rotate_left
          · simp only [Act.put, List.setIfInBounds_toArray, List.set_cons_zero, List.set_cons_succ, i64_w, i32_w]
            rfl
          refine pure_ (i := 7) (N := (some 55)) (v := ?_) (a' := ?_) #[true, true, false, true, true, true, false, true, false, false, false, false, false] rfl rfl (any_of HT_.out (by kernel_rfl)) (fun _ _ _ h => h) (Or.inl ⟨by rfl, ?_⟩) ?_ ?_
          rotate_left
          · intro w'
            go_simp
            with_reducible rfl
          rotate_left
          · simp only [Act.put, List.setIfInBounds_toArray, List.set_cons_zero, List.set_cons_succ, i64_w, i32_w]
            rfl
          refine pure_ (i := 8) (N := (some 56)) (v := ?_) (a' := ?_) #[true, true, false, true, true, true, false, true, true, false, false, false, false] rfl rfl (any_of HT_.out (by kernel_rfl)) (fun _ _ _ h => h) (Or.inl ⟨by rfl, ?_⟩) ?_ ?_
          rotate_left
          · intro w'
            go_simp
            rw [E8.out]
          rotate_left
          · simp only [Act.put, List.setIfInBounds_toArray, List.set_cons_zero, List.set_cons_succ, i64_w, i32_w]
            rfl
          refine pure_ (i := 9) (N := (some 57)) (v := ?_) (a' := ?_) #[true, true, false, true, true, true, false, true, true, true, false, false, false] rfl rfl (any_of HT_.out (by kernel_rfl)) (fun _ _ _ h => h) (Or.inl ⟨by rfl, ?_⟩) ?_ ?_
          rotate_left
          · intro w'
            go_simp
            rw [HSH.out]
          rotate_left
          · simp only [Act.put, List.setIfInBounds_toArray, List.set_cons_zero, List.set_cons_succ, i64_w, i32_w]
            rfl
          refine take_ (i := 6) (N := (some 54)) (v := ?_) (a' := ?_) #[true, true, false, true, true, true, true, true, true, true, false, false, false] rfl rfl (take_ofW HT_.out HW_.out (by kernel_rfl)) (fun _ _ _ h => h) (Or.inl ⟨by rfl, ?_⟩) hHeld ?_ ?_
          rotate_left
          · intro w' hS_
            go_simp
            go_simp; with_reducible rfl
          rotate_left
          · simp only [Act.put, List.setIfInBounds_toArray, List.set_cons_zero, List.set_cons_succ, i64_w, i32_w]
            rfl
          refine pure_ (i := 10) (N := (some 58)) (v := ?_) (a' := ?_) #[true, true, false, true, true, true, true, true, true, true, true, false, false] rfl rfl (any_of HT_.out (by kernel_rfl)) (fun _ _ _ h => h) (Or.inl ⟨by rfl, ?_⟩) ?_ ?_
          rotate_left
          · intro w'
            go_simp
            rw [if_neg HP0.out, HREM.out]
          rotate_left
          · simp only [Act.put, List.setIfInBounds_toArray, List.set_cons_zero, List.set_cons_succ, i64_w, i32_w]
            rfl
          refine pure_ (i := 11) (N := (some 59)) (v := ?_) (a' := ?_) #[true, true, false, true, true, true, true, true, true, true, true, true, false] rfl rfl (any_of HT_.out (by kernel_rfl)) (fun _ _ _ h => h) (Or.inl ⟨by rfl, ?_⟩) ?_ ?_
          rotate_left
          · intro w'
            go_simp
            rw [HXW.out]
          rotate_left
          · simp only [Act.put, List.setIfInBounds_toArray, List.set_cons_zero, List.set_cons_succ, i64_w, i32_w]
            rfl
          refine one_ (i := 2) (N := (some 50)) #[true, true, true, true, true, true, true, true, true, true, true, true, false] rfl rfl (one_of HT_.out (by kernel_rfl)) (by decide) (fun K hK => ?_)
          refine goes_ Try.func15 (by kernel_rfl) rfl #[.pointer (some ⟨g, 0, none⟩), .int .i64 (kk : Nat)] (by rfl) rfl rfl (by (try simp only [List.map_toArray, List.map_cons, List.map_nil]); first | done | rfl) ?_
          refine (octet_Reader_Num.calls g _ _ _ _ _ _ _ _ w _ (IsS53.drew hI) (Below.drew hB) hnum).mono ?_
          rintro e w5 ⟨rfl, hI5, hB5, hk5⟩
          refine ⟨_, rfl, ?_⟩
          refine hK.out _ _ (octb_cell HR0.out hB5 i hlt) (fun hHeld => ?_)
          clear hK K
          refine norm_ (a' := ?_) ?_ ?_
          rotate_left
          · show Act.put _ (some 50) _ = _
            simp only [Act.put, List.setIfInBounds_toArray, List.set_cons_zero, List.set_cons_succ, i64_w, i32_w]
            rfl
          refine pure_ (i := 12) (N := (some 60)) (v := ?_) (a' := ?_) #[true, true, true, true, true, true, true, true, true, true, true, true, true] rfl rfl (any_of HT_.out (by kernel_rfl)) (fun _ _ _ h => h) (Or.inl ⟨by rfl, ?_⟩) ?_ ?_
          rotate_left
          · intro w'
            go_simp
            with_reducible rfl
          rotate_left
          · simp only [Act.put, List.setIfInBounds_toArray, List.set_cons_zero, List.set_cons_succ, i64_w, i32_w]
            rfl
          refine done_ (done_of HT_.out (by kernel_rfl)) ?_
          go_wp2
          go_roundw
          case rel => exact ⟨i + 1, d, by omega, by go_num, hI5, hB5⟩
          case measure => simp [intOf]; omega
set_option maxHeartbeats 1000000 in
set_option maxRecDepth 100000 in
theorem octb_long (A0 : Option Addr) (c0 n0 : Nat) (w : World) (hn : 30 < n0) :
    Calls Try.prog 4 #[.slice A0 n0 c0] w fun e w' => e = .returned (.bool true) ∧ Below w.heap.size w w' := by
  have hd : decide (30 < (n0 : Int)) = true := decide_eq_true (by omega)
  go_enter Try.func4, Try.ntmps4
  go_wp2_with (go_at_call 11; refine (splicerlaw02_awake.run _).mono ?_; rintro e w1 ⟨rfl, hb⟩)
  go_ret
  exact ⟨rfl, hb⟩
def splicerlaw02_OctetBack.Pure : Prop := True
theorem splicerlaw02_OctetBack.walk (_P : splicerlaw02_OctetBack.Pure) (a0 : Option Addr) (len0 cap0 : Nat) (z0 : List Int) (w : World) (w0 : (a0 = none ∧ len0 = 0 ∧ cap0 = 0 ∧ z0 = []) ∨ ∃ x, a0 = some x ∧ len0 ≤ cap0 ∧ cap0 ≤ maxLen ∧ z0.length = cap0 ∧ (∀ i, i < z0.length → w.cell? (x.add i) = some (.int .u64 (z0.getD i 0))) ∧ ∀ n ∈ z0, (Lit.int .u64 n).wf = true) (y0 : len0 * 8 ≤ 140737488351232) :
    Calls Try.prog 4 #[.slice a0 len0 cap0] w fun e w' => e = .returned (.bool true) ∧ Below w.heap.size w w' := by
  obtain ⟨l0, rfl, hr0, hm0, hw0, hc0⟩ := ReadsInt.ofRowC w0
  by_cases hn : l0.length ≤ 30
  · refine octb_run a0 cap0 l0 w (Kd.C_of_reads (d := (0 : Int)) (h1 := fun _ => rfl) hr0) hc0 (fun i hi => ?_) hn
    have hmem : rd l0 i ∈ l0 := by
      unfold rd
      rw [Int.toNat_natCast, List.getD_eq_getElem?_getD, List.getElem?_eq_getElem hi]
      exact List.getElem_mem hi
    have hb := bounds_u64 (hw0 _ hmem)
    omega
  · exact octb_long a0 cap0 _ w (by omega)
end

/-! ### splicerref02_Num: function 25 -/
mutual
def splicerref02_Num.j0 : Nat → Int → Int → Bool → Option (ByteArray)
  | 0, _, _, _ => none
  | k + 1, x0, x1, x23 => if x23 = true then (some (⟨#[]⟩ : ByteArray)) else (splicerref02_Num.l0 k x0 x1 (⟨#[]⟩ : ByteArray) 0)
def splicerref02_Num.l0 : Nat → Int → Int → ByteArray → Int → Option (ByteArray)
  | 0, _, _, _, _ => none
  | k + 1, x0, x1, x5, x6 => if x6 < x1 then (if 0 ≤ (wrap64 (8 * x6)) then ((some (([(Go.bits .and .i64 (shr .i64 x0 (wrap64 (8 * x6))) 255) % 256] : List Int) : List Int)).bind fun y118 => (if (strOfNums y118).size + x5.size ≤ 9223372036854775807 then (splicerref02_Num.l0 k x0 x1 ((strOfNums y118) ++ x5) (wrap64 (x6 + 1))) else (none))) else (none)) else (some x5)
end
def splicerref02_Num.f (k : Nat) (a0 : Int) (a1 : Int) : Option (ByteArray) := if a1 < 1 then (splicerref02_Num.j0 k a0 a1 true) else (if a1 > 7 then (splicerref02_Num.j0 k a0 a1 true) else (if a0 < 0 then (splicerref02_Num.j0 k a0 a1 true) else (if 0 ≤ (wrap64 (8 * a1)) then (splicerref02_Num.j0 k a0 a1 (decide (a0 ≥ (shl .i64 1 (wrap64 (8 * a1)))))) else (none))))
theorem splicerref02_Num.mono_l : ∀ k, (∀ y0 y1 y2, LeO (splicerref02_Num.j0 k y0 y1 y2) (splicerref02_Num.j0 (k + 1) y0 y1 y2)) ∧ (∀ y0 y1 y2 y3, LeO (splicerref02_Num.l0 k y0 y1 y2 y3) (splicerref02_Num.l0 (k + 1) y0 y1 y2 y3))
  | 0 => ⟨fun _ _ _ r h => by simp [splicerref02_Num.j0] at h, fun _ _ _ _ r h => by simp [splicerref02_Num.l0] at h⟩
  | k + 1 => by
    obtain ⟨ih0, ih1⟩ := splicerref02_Num.mono_l k
    refine ⟨?_, ?_⟩
    · intro y0 y1 y2
      unfold splicerref02_Num.j0
      repeat' first
      | (with_reducible exact ih0 _ _ _)
      | (with_reducible exact ih1 _ _ _ _)
      | (with_reducible exact LeO.refl _)
      | (with_reducible exact LeO.none _)
      | (with_reducible refine LeO.ite ?_ ?_)
      | (with_reducible refine LeO.bind ?_ (fun _ => ?_))
      | exact ih0 _ _ _
      | exact ih1 _ _ _ _
      | exact LeO.none _
      | refine LeO.ite ?_ ?_
      | refine LeO.bind ?_ (fun _ => ?_)
    · intro y0 y1 y2 y3
      unfold splicerref02_Num.l0
      repeat' first
      | (with_reducible exact ih0 _ _ _)
      | (with_reducible exact ih1 _ _ _ _)
      | (with_reducible exact LeO.refl _)
      | (with_reducible exact LeO.none _)
      | (with_reducible refine LeO.ite ?_ ?_)
      | (with_reducible refine LeO.bind ?_ (fun _ => ?_))
      | exact ih0 _ _ _
      | exact ih1 _ _ _ _
      | exact LeO.none _
      | refine LeO.ite ?_ ?_
      | refine LeO.bind ?_ (fun _ => ?_)
theorem splicerref02_Num.mono : ∀ a0 a1 k, LeO (splicerref02_Num.f k a0 a1) (splicerref02_Num.f (k + 1) a0 a1) := by
  intro a0 a1 k
  obtain ⟨ih0, ih1⟩ := splicerref02_Num.mono_l k
  unfold splicerref02_Num.f
  repeat' first
      | (with_reducible exact ih0 _ _ _)
      | (with_reducible exact ih1 _ _ _ _)
      | (with_reducible exact LeO.refl _)
      | (with_reducible exact LeO.none _)
      | (with_reducible refine LeO.ite ?_ ?_)
      | (with_reducible refine LeO.bind ?_ (fun _ => ?_))
      | exact ih0 _ _ _
      | exact ih1 _ _ _ _
      | exact LeO.none _
      | refine LeO.ite ?_ ?_
      | refine LeO.bind ?_ (fun _ => ?_)
set_option maxHeartbeats 8000000 in
set_option maxRecDepth 100000 in
theorem splicerref02_Num.calls (k : Nat) (a0 : Int) (a1 : Int) (r : ByteArray) (w : World) (h : splicerref02_Num.f k a0 a1 = some r) :
    Calls Try.prog 25 #[.int .i64 a0, .int .i64 a1] w fun e w' => e = .returned (.string r) ∧ Below w.heap.size w w' := by
  have HB := Aside0.mk (Below.refl w.heap.size w)
  have H : (if a1 < 1 then (splicerref02_Num.j0 k a0 a1 true) else (if a1 > 7 then (splicerref02_Num.j0 k a0 a1 true) else (if a0 < 0 then (splicerref02_Num.j0 k a0 a1 true) else (if 0 ≤ (wrap64 (8 * a1)) then (splicerref02_Num.j0 k a0 a1 (decide (a0 ≥ (shl .i64 1 (wrap64 (8 * a1)))))) else (none))))) = some r := h
  clear h
  have HC3 := Aside0.mk H
  clear H
  go_enter Try.func25, Try.ntmps25
  go_upto_region 1 with (fail)
  go_cut [23] (fun v23 wc => ∃ (kq : Nat) (x23_2 : Bool), v23 = .bool x23_2 ∧ Aside0 (splicerref02_Num.j0 kq a0 a1 x23_2 = some r) ∧ Aside0 (kq ≤ k) ∧ Aside0 (Below w.heap.size w wc))
  case first =>
    have H := HC3.out
    clear HC3
    by_cases c4 : a1 < 1
    · rw [if_pos c4] at H
      have c4b0 : decide (a1 < 1) = true := decide_eq_true c4
      clear c4
      (first | rw [c4b0] | (simp only [i64_w, i32_w]; rw [c4b0]) | skip)
      have H' := Aside0.mk H
      clear H
      go_wp2
      go_meet
      case rel => exact ⟨_, (true), (by first | rfl | (simp; done) | (simp [*]; done)), H', ⟨by first | omega | exact Nat.le_refl _⟩, ⟨by repeat (first | (with_reducible first | exact HB.out | apply below_alloc | apply pw_below_drewN | apply below_drew1) | exact HB.out)⟩⟩
    · rw [if_neg c4] at H
      have c4b0 : decide (a1 < 1) = false := decide_eq_false c4
      clear c4
      (first | rw [c4b0] | (simp only [i64_w, i32_w]; rw [c4b0]) | skip)
      by_cases c5 : a1 > 7
      · rw [if_pos c5] at H
        have c5b0 : decide (7 < a1) = true := decide_eq_true c5
        clear c5
        have H' := Aside0.mk H
        clear H
        go_wp2
        go_meet
        case rel => exact ⟨_, (true), (by first | rfl | (simp; done) | (simp [*]; done)), H', ⟨by first | omega | exact Nat.le_refl _⟩, ⟨by repeat (first | (with_reducible first | exact HB.out | apply below_alloc | apply pw_below_drewN | apply below_drew1) | exact HB.out)⟩⟩
      · rw [if_neg c5] at H
        have c5b0 : decide (7 < a1) = false := decide_eq_false c5
        clear c5
        by_cases c6 : a0 < 0
        · rw [if_pos c6] at H
          have c6b0 : decide (a0 < 0) = true := decide_eq_true c6
          clear c6
          have H' := Aside0.mk H
          clear H
          go_wp2
          go_meet
          case rel => exact ⟨_, (true), (by first | rfl | (simp; done) | (simp [*]; done)), H', ⟨by first | omega | exact Nat.le_refl _⟩, ⟨by repeat (first | (with_reducible first | exact HB.out | apply below_alloc | apply pw_below_drewN | apply below_drew1) | exact HB.out)⟩⟩
        · rw [if_neg c6] at H
          have c6b0 : decide (a0 < 0) = false := decide_eq_false c6
          clear c6
          obtain ⟨ji7, hji7⟩ : ∃ j_ : Int, (wrap64 (8 * a1)) = j_ := ⟨_, rfl⟩
          replace H : (if 0 ≤ (ji7) then (splicerref02_Num.j0 k a0 a1 (decide (a0 ≥ (shl .i64 1 (ji7))))) else (none)) = some r := by first | (rw [hji7] at H; exact H) | (simp only [hji7] at H ⊢; exact H)
          have hji7w : (IntKind.i64.wrap (8 * a1)) = ji7 := (i64_w _).trans hji7
          by_cases c8 : 0 ≤ (ji7)
          · rw [if_pos c8] at H
            have c8b0 := eq_true c8
            have c8b1 : decide (0 ≤ (ji7)) = true := decide_eq_true c8
            clear c8
            obtain ⟨ji9, hji9⟩ : ∃ j_ : Int, (shl .i64 1 (ji7)) = j_ := ⟨_, rfl⟩
            replace H : (splicerref02_Num.j0 k a0 a1 (decide (a0 ≥ (ji9)))) = some r := by first | (rw [hji9] at H; exact H) | (simp only [hji9] at H ⊢; exact H)
            have hji9_ : (IntKind.i64.wrap (1 * 2 ^ min (ji7).toNat 64)) = ji9 := hji9
            have hji9z : (ji7) ≤ 64 → (IntKind.i64.wrap (1 * 2 ^ (ji7).toNat)) = ji9 := shl_small hji9
            have hji9u : (IntKind.i64.wrap (2 ^ min (ji7).toNat 64)) = ji9 := by have h_ := hji9_; rw [Int.one_mul] at h_; exact h_
            have hji9v : (ji7) ≤ 64 → (IntKind.i64.wrap (2 ^ (ji7).toNat)) = ji9 := fun hle_ => by have h_ := hji9z hle_; rw [Int.one_mul] at h_; exact h_
            have hji9y : (wrap64 (1 * 2 ^ min (ji7).toNat 64)) = ji9 := (i64_w _).symm.trans hji9_
            have hji9x : (ji7) ≤ 64 → (wrap64 (1 * 2 ^ (ji7).toNat)) = ji9 := fun h_ => (i64_w _).symm.trans (hji9z h_)
            have H' := Aside0.mk H
            clear H
            go_wp2
            go_meet
            case rel => exact ⟨_, (decide (a0 ≥ (ji9))), (by first | rfl | (simp; done) | (simp only [← hji9] <;> (first | rfl | simp)) | (simp [*]; done)), H', ⟨by first | omega | exact Nat.le_refl _⟩, ⟨by repeat (first | (with_reducible first | exact HB.out | apply below_alloc | apply pw_below_drewN | apply below_drew1) | exact HB.out)⟩⟩
          · rw [if_neg c8] at H
            exact absurd H (by simp)
  case rest =>
    clear HC3
    try clear c2
    try clear p2
    try clear c4
    try clear c4b0
    try clear c5
    try clear c5b0
    try clear c6
    try clear c6b0
    try clear p6
    try clear c8
    try clear c8b0
    try clear c8b1
    obtain ⟨kq, x23_2, rfl, HA, HJ2, HB⟩ := hcut
    cases kq with
    | zero => exact absurd HA.out (by simp [splicerref02_Num.j0])
    | succ kj2 =>
      have H := HA.out
      clear HA
      simp only [splicerref02_Num.j0] at H
      by_cases c10 : x23_2 = true
      · subst c10
        have H1 : (some (⟨#[]⟩ : ByteArray)) = some r := by rw [if_pos rfl] at H; exact H
        clear H
        have H := H1
        clear H1
        obtain rfl := Option.some.inj H
        go_wp2
        go_ret
        exact ⟨by first | rfl | (simp [errW_none, errW_some] <;> rfl) | (simp [*, errW_none, errW_some] <;> rfl), by repeat (first | (with_reducible first | exact HB.out | apply below_alloc | apply pw_below_drewN | apply below_drew1) | exact HB.out)⟩
      · replace c10 := Bool.eq_false_iff.mpr c10
        subst c10
        have H1 : (splicerref02_Num.l0 kj2 a0 a1 (⟨#[]⟩ : ByteArray) 0) = some r := by rw [if_neg (show ¬ (false = true) by decide)] at H; exact H
        clear H
        have H := H1
        clear H1
        have H' := Aside0.mk H
        clear H
        go_wp2
        go_loopg [5, 6] kj2 (fun kq v5 v6 w' => ∃ (x5_2 : ByteArray) (x6_2 : Int), v5 = .string x5_2 ∧ v6 = .int .i64 x6_2 ∧ Aside0 (splicerref02_Num.l0 kq a0 a1 x5_2 x6_2 = some r) ∧ Aside0 (kq ≤ kj2) ∧ Aside0 (Below w.heap.size w w'))
        case atStart => exact ⟨((⟨#[]⟩ : ByteArray)), (0), (by first | rfl | (simp; done) | (simp [*]; done)), (by first | rfl | (simp; done) | (simp [*]; done)), H', ⟨Nat.le_refl _⟩, ⟨by repeat (first | (with_reducible first | exact HB.out | apply below_alloc | apply pw_below_drewN | apply below_drew1) | exact HB.out)⟩⟩
        case round =>
          clear H'
          try clear c1
          try clear c2
          try clear p2
          try clear c4
          try clear c4b0
          try clear c5
          try clear c5b0
          try clear c6
          try clear c6b0
          try clear p6
          try clear c8
          try clear c8b0
          try clear c8b1
          try clear c10
          try clear p2
          try clear p6
          obtain ⟨x5_2, x6_2, rfl, rfl, HA, HK2, HB⟩ := hrel
          cases gk with
          | zero => exact absurd HA.out (by simp [splicerref02_Num.l0])
          | succ k2 =>
            have H := HA.out
            clear HA
            simp only [splicerref02_Num.l0] at H
            by_cases c11 : x6_2 < a1
            · rw [if_pos c11] at H
              have c11b0 : decide (x6_2 < a1) = true := decide_eq_true c11
              clear c11
              obtain ⟨ji12, hji12⟩ : ∃ j_ : Int, (wrap64 (8 * x6_2)) = j_ := ⟨_, rfl⟩
              replace H : (if 0 ≤ (ji12) then ((some (([(Go.bits .and .i64 (shr .i64 a0 (ji12)) 255) % 256] : List Int) : List Int)).bind fun y118 => (if (strOfNums y118).size + x5_2.size ≤ 9223372036854775807 then (splicerref02_Num.l0 k2 a0 a1 ((strOfNums y118) ++ x5_2) (wrap64 (x6_2 + 1))) else (none))) else (none)) = some r := by first | (rw [hji12] at H; exact H) | (simp only [hji12] at H ⊢; exact H)
              have hji12w : (IntKind.i64.wrap (8 * x6_2)) = ji12 := (i64_w _).trans hji12
              by_cases c13 : 0 ≤ (ji12)
              · rw [if_pos c13] at H
                have c13b0 := eq_true c13
                have c13b1 : decide (0 ≤ (ji12)) = true := decide_eq_true c13
                clear c13
                obtain ⟨ji14, hji14⟩ : ∃ j_ : Int, (shr .i64 a0 (ji12)) = j_ := ⟨_, rfl⟩
                replace H : ((some (([(Go.bits .and .i64 (ji14) 255) % 256] : List Int) : List Int)).bind fun y118 => (if (strOfNums y118).size + x5_2.size ≤ 9223372036854775807 then (splicerref02_Num.l0 k2 a0 a1 ((strOfNums y118) ++ x5_2) (wrap64 (x6_2 + 1))) else (none))) = some r := by first | (rw [hji14] at H; exact H) | (simp only [hji14] at H ⊢; exact H)
                have hji14_ : (a0 / 2 ^ min (ji12).toNat 64) = ji14 := hji14
                have hji14z : (ji12) ≤ 64 → (a0 / 2 ^ (ji12).toNat) = ji14 := shr_small hji14
                obtain ⟨y118, hy118⟩ : ∃ y_ : List Int, y_ = (([(Go.bits .and .i64 (ji14) 255) % 256] : List Int)) := ⟨_, rfl⟩
                replace H : (if (strOfNums y118).size + x5_2.size ≤ 9223372036854775807 then (splicerref02_Num.l0 k2 a0 a1 ((strOfNums y118) ++ x5_2) (wrap64 (x6_2 + 1))) else (none)) = some r := by first | (rw [hy118]; with_reducible exact H) | (have H2_ := (Option.bind_some _ _).symm.trans H; rw [hy118]; with_reducible exact H2_) | (have H2_ := (Option.bind_some _ _).symm.trans H; with_reducible exact H2_) | with_reducible exact H | (rw [hy118]; exact H) | exact H
                have Ny118 := Aside0.mk hy118
                clear hy118
                by_cases c15 : (strOfNums y118).size + x5_2.size ≤ 9223372036854775807
                · rw [if_pos c15] at H
                  have c15b0 := eq_true c15
                  have c15b1 : decide ((strOfNums y118).size + x5_2.size ≤ 9223372036854775807) = true := decide_eq_true c15
                  try have c15b2 : (9223372036854775807 < (strOfNums y118).size + x5_2.size) = False := eq_false (Nat.not_lt.2 c15)
                  have H' := Aside0.mk H
                  clear H
                  go_wp2_with (first | ((with_reducible refine gate_dst (N := 35) rfl ?_); refine Kd.R_lit (Kd.int .u8) _ 5 ?hg (N := 35) ?hd (xs := ([(Go.bits .and .i64 (ji14) 255) % 256] : List Int)) (inner := [.int .u8 ((Go.bits .and .i64 (ji14) 255) % 256)]) (ok := fun _ => True) (okp := fun _ => True) ?hr ?hp (fun _ hk => hk) trivial (Below.refl _ _) (Nat.le_refl _) (by simp) ?_; (case hd => rfl); (case hg => rfl); (case hr => first | (go_simp; done) | (go_simp; rfl)); (case hp => exact (Reps.one (show Kd.M (Kd.int .u8) _ _ _ ((Go.bits .and .i64 (ji14) 255) % 256) [.int .u8 ((Go.bits .and .i64 (ji14) 255) % 256)] from rfl) (Reps.none _ _))); intro v119 w16 ho17 hb hg_ hnew_; clear hg_ hnew_; (first | rw [← Ny118.out] at ho17 | (simp only [Int.reduceToNat] at ho17; rw [← Ny118.out] at ho17)); have n0_ := Aside0.mk (Kd.R_lower ho17 (below_size (by repeat (first | (with_reducible first | exact HB.out | apply below_alloc | apply pw_below_drewN | apply below_drew1) | exact HB.out)))); have n1_ := Aside0.mk (below_step (by repeat (first | (with_reducible first | exact HB.out | apply below_alloc | apply pw_below_drewN | apply below_drew1) | exact HB.out)) hb); clear HB; have HO120 := n0_; have HB := n1_; clear n0_ n1_; clear hb ho17; have hcv18 := own_string (P := Try.prog) Try.underlying38 Try.underlying5 Try.underlying9 (Kd.own_of_R HO120.out)))
                  go_roundg k2
                  case measure => have := HJ2.out; have := HK2.out; omega
                  case rel => exact ⟨((strOfNums y118) ++ x5_2), (wrap64 (x6_2 + 1)), (by first | rfl | (simp; done) | (simp [*]; done)), (by first | rfl | (simp; done) | (simp [*]; done)), H', ⟨by have := HJ2.out; have := HK2.out; omega⟩, ⟨by repeat (first | (with_reducible first | exact HB.out | apply below_alloc | apply pw_below_drewN | apply below_drew1) | exact HB.out)⟩⟩
                · rw [if_neg c15] at H
                  exact absurd H (by simp)
              · rw [if_neg c13] at H
                exact absurd H (by simp)
            · rw [if_neg c11] at H
              have c11b0 : decide (x6_2 < a1) = false := decide_eq_false c11
              clear c11
              obtain rfl := Option.some.inj H
              go_wp2
              go_ret
              exact ⟨by first | rfl | (simp [errW_none, errW_some] <;> rfl) | (simp [*, errW_none, errW_some] <;> rfl), by repeat (first | (with_reducible first | exact HB.out | apply below_alloc | apply pw_below_drewN | apply below_drew1) | exact HB.out)⟩

-- NOT PRINTED: function 41 (strings_Builder_Len)

-- NOT PRINTED: function 26 (octet_Writer_Len)

end Go.Proofs.Ytaoodgijapiipaa.S
