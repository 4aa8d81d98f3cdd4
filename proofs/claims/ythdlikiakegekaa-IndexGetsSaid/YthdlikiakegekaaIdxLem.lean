import Derived.Test.YthdlikiakegekaaIx2
import Derived.Test.YthdlikiakegekaaIx4
import Derived.Test.YthdlikiakegekaaIx5
/-! What index and its reference tell: plain lists. -/
set_option linter.unusedVariables false
namespace Go.Proofs.Ythdlikiakegekaa.IdxLem
open Go.RowKit Go.Proofs.Ythdlikiakegekaa.S Go.Proofs.YthdlikiakegekaaW.PrintWords Go.Proofs.YthdlikiakegekaaW.PrintLast Go.Proofs.YthdlikiakegekaaW.PrintMore
section
open OctW
theorem octw_l (n k : Nat) (hn : n < 9223372036854775808) (hk : k ≤ 7) (d : Nat) : ∀ i fuel, i + d = k → d < fuel → splicerref02_Num.l0 fuel (n : Int) (k : Int) ⟨(beN n i).toArray⟩ (i : Int) = some ⟨(beN n k).toArray⟩ := by
  induction d with
  | zero =>
    intro i fuel hi hf
    obtain ⟨fuel, rfl⟩ : ∃ m, fuel = m + 1 := ⟨fuel - 1, by omega⟩
    obtain rfl : i = k := by omega
    simp only [splicerref02_Num.l0]
    rw [if_neg (by omega)]
  | succ d ih =>
    intro i fuel hi hf
    obtain ⟨fuel, rfl⟩ : ∃ m, fuel = m + 1 := ⟨fuel - 1, by omega⟩
    simp only [splicerref02_Num.l0]
    have e8 : wrap64 (8 * (i : Int)) = ((8 * i : Nat) : Int) := by unfold wrap64; omega
    rw [if_pos (by omega), e8, if_pos (by omega), Option.bind_some]
    have hb : Go.bits .and .i64 (shr .i64 (n : Int) ((8 * i : Nat) : Int)) 255 % 256 = ((n / 256 ^ i % 256 : Nat) : Int) := by
      have e1 : shr .i64 (n : Int) ((8 * i : Nat) : Int) = ((n / 256 ^ i : Nat) : Int) := by
        unfold shr
        rw [Int.toNat_natCast, Nat.min_eq_left (by show 8 * i ≤ 64; omega)]
        exact shr8 n i
      rw [e1]
      have hle : n / 256 ^ i ≤ n := Nat.div_le_self _ _
      generalize n / 256 ^ i = x at *
      have := bits_mask .i64 63 (by decide) (fun n h0 h1 => by rw [i64_w]; unfold wrap64; omega) 8 (by decide) (x : Int) (by omega) (by omega)
      rw [show ((2 : Int) ^ 8 - 1) = 255 from rfl] at this
      rw [this]; omega
    rw [hb]
    have hs : strOfNums [((n / 256 ^ i % 256 : Nat) : Int)] ++ (⟨(beN n i).toArray⟩ : ByteArray) = ⟨(beN n (i + 1)).toArray⟩ := by
      rw [show strOfNums [((n / 256 ^ i % 256 : Nat) : Int)] = ⟨#[UInt8.ofNat (n / 256 ^ i % 256)]⟩ by simp only [strOfNums, List.map_cons, List.map_nil, Int.toNat_natCast]]
      apply ByteArray.ext
      simp [beN]
    rw [hs, if_pos (by rw [strOfNums_size]; show 1 + (beN n i).toArray.size ≤ _; simp [beN_length]; omega), show wrap64 ((i : Int) + 1) = ((i + 1 : Nat) : Int) by unfold wrap64; omega]
    exact ih (i + 1) fuel (by omega) (by omega)
theorem octw_num (n k : Int) (h0 : -9223372036854775808 ≤ n) (h1 : n ≤ 9223372036854775807) (hk0 : -9223372036854775808 ≤ k) (hk1 : k ≤ 9223372036854775807) : splicerref02_Num.f 40 n k = some ⟨(numL n k).toArray⟩ := by
  unfold splicerref02_Num.f
  by_cases c1 : k < 1
  · rw [if_pos c1, numL, if_neg (fun h => by have := h.1; omega)]; rfl
  · rw [if_neg c1]
    by_cases c2 : k > 7
    · rw [if_pos c2, numL, if_neg (fun h => by have := h.2.1; omega)]; rfl
    · rw [if_neg c2]
      by_cases c3 : n < 0
      · rw [if_pos c3, numL, if_neg (fun h => by have := h.2.2.1; omega)]; rfl
      · obtain ⟨n, rfl⟩ := Int.eq_ofNat_of_zero_le (show 0 ≤ n by omega)
        obtain ⟨k, rfl⟩ := Int.eq_ofNat_of_zero_le (show 0 ≤ k by omega)
        have e8 : wrap64 (8 * (k : Int)) = ((8 * k : Nat) : Int) := by unfold wrap64; omega
        rw [if_neg c3, e8, if_pos (by omega)]
        have hs : shl .i64 1 ((8 * k : Nat) : Int) = ((256 ^ k : Nat) : Int) := by
          unfold shl
          have hp : 256 ^ k ≤ 72057594037927936 := Nat.le_trans (Nat.pow_le_pow_right (by decide) (show k ≤ 7 by omega)) (by decide)
          rw [Int.toNat_natCast, Nat.min_eq_left (by show 8 * k ≤ 64; omega), Int.one_mul, pow8, i64_w]
          generalize 256 ^ k = p at *
          unfold wrap64; omega
        rw [hs]
        have hfit := fits_iff n k (by omega) (by omega)
        have hpos : 0 < 256 ^ k := Nat.pow_pos (by decide)
        by_cases c4 : 256 ^ k ≤ n
        · rw [decide_eq_true (by omega), numL, if_neg (fun h => by have := (Nat.div_eq_zero_iff_lt hpos).1 (hfit.1 h); omega)]; rfl
        · rw [decide_eq_false (by omega), numL, if_pos (hfit.2 (Nat.div_eq_of_lt (by omega))), Int.toNat_natCast, Int.toNat_natCast]
          exact octw_l n k (by omega) (by omega) k 0 39 (by omega) (by omega)
end
section
open CrcLem CrcW
theorem step_f (n : Nat) (h : n < 4294967296) : splicerref03_Step.f n = some ((stepN n : Nat) : Int) := by
  unfold splicerref03_Step.f stepN
  rw [Int.tmod_eq_emod_of_nonneg (by omega), Int.tdiv_eq_ediv_of_nonneg (by omega)]
  by_cases hn : n % 2 = 1
  · rw [if_pos (by omega), if_pos hn, show (n : Int) / 2 % 4294967296 = ((n / 2 : Nat) : Int) by omega]
    exact congrArg some (xor_u32 (n / 2) 3988292384 (by omega) (by decide))
  · rw [if_neg (by omega), if_neg hn]; congr 1; omega

theorem more_l (s : ByteArray) (hs : s.size ≤ 140737488351232) (d : Nat) : ∀ (k n i : Nat), n < 4294967296 → i ≤ s.size → s.size - i = d → 20 * d + 20 ≤ k →
    splicerref03_More.l0 k s n i = some ((4294967295 ^^^ reg n (s.data.toList.drop i) : Nat) : Int) := by
  induction d with
  | zero =>
    intro k n i hn hi hd hk
    obtain ⟨k, rfl⟩ : ∃ m, k = m + 1 := ⟨k - 1, by omega⟩
    simp only [splicerref03_More.l0]
    rw [if_neg (by omega), List.drop_of_length_le (by simp; omega)]
    exact congrArg some (xor_u32 4294967295 n (by decide) hn)
  | succ d ih =>
    intro k n i hn hi hd hk
    obtain ⟨k, rfl⟩ : ∃ m, k = m + 1 := ⟨k - 1, by omega⟩
    simp only [splicerref03_More.l0]
    have hlt : i < s.size := by omega
    have hb := byte_lt s[i]
    have hbt : bt s i = (s[i].toNat : Int) := by
      have := bt_at s i (by simpa using hlt)
      rw [← this]; simp
    have inner : ∀ (j k m a : Nat), m < 4294967296 → a + j = 8 → 20 * d + 21 + j ≤ k → splicerref03_More.l1 k s m i a = some ((4294967295 ^^^ reg (steps j m) (s.data.toList.drop (i + 1)) : Nat) : Int) := by
      intro j
      induction j with
      | zero =>
        intro k m a hm ha hk
        obtain ⟨k, rfl⟩ : ∃ m, k = m + 1 := ⟨k - 1, by omega⟩
        simp only [splicerref03_More.l1]
        rw [if_neg (by omega), show wrap64 ((i : Int) + 1) = ((i + 1 : Nat) : Int) by unfold wrap64; omega]
        exact ih k m (i + 1) hm (by omega) (by omega) (by omega)
      | succ j ihj =>
        intro k m a hm ha hk
        obtain ⟨k, rfl⟩ : ∃ m, k = m + 1 := ⟨k - 1, by omega⟩
        simp only [splicerref03_More.l1]
        rw [if_pos (by omega), step_f m hm, Option.bind_some, show wrap64 ((a : Int) + 1) = ((a + 1 : Nat) : Int) by unfold wrap64; omega, ihj k _ (a + 1) (stepN_lt m hm) (by omega) (by omega)]
        rfl
    rw [if_pos (by omega), if_pos (by omega), hbt, show ((s[i].toNat : Nat) : Int) % 4294967296 = ((s[i].toNat : Nat) : Int) by omega, xor_u32 n _ hn (by omega)]
    have e : s.data.toList.drop i = s[i] :: s.data.toList.drop (i + 1) := by
      rw [List.drop_eq_getElem_cons (by simpa using hlt)]; rfl
    rw [e, reg_cons]
    exact inner 8 k _ 0 (xor32 hn (by omega)) (by decide) (by omega)
theorem more_f (s : ByteArray) (hs : s.size ≤ 140737488351232) (sum : Nat) (h : sum < 4294967296) : splicerref03_More.f (20 * s.size + 20) sum s = some ((sumN sum s.data.toList : Nat) : Int) := by
  unfold splicerref03_More.f
  rw [show bits .xor .u32 IntKind.u32.max (sum : Int) = ((4294967295 ^^^ sum : Nat) : Int) from xor_u32 4294967295 sum (by decide) h]
  exact more_l s hs s.size _ _ 0 (xor32 (by decide) h) (by omega) (by omega) (by omega)
theorem sum_f (s : ByteArray) (hs : s.size ≤ 140737488351232) : splicerref03_Sum.f (20 * s.size + 20) s = some ((sumN 0 s.data.toList : Nat) : Int) := by
  unfold splicerref03_Sum.f
  have := more_f s hs 0 (by decide)
  rw [show ((0 : Nat) : Int) = 0 from rfl] at this
  rw [this]; rfl
end
open OctW
theorem numE (n : Int) (h0 : -9223372036854775808 ≤ n) (h1 : n ≤ 9223372036854775807) : Ev (fun k => splicerref02_Num.f k n 4) ⟨(numL n 4).toArray⟩ := Ev.of (fun k => splicerref02_Num.mono _ _ k) (octw_num n 4 h0 h1 (by decide) (by decide))
theorem sumE (L : List UInt8) (h : L.length ≤ 1000000) : Ev (fun k => splicerref03_Sum.f k ⟨L.toArray⟩) ((CrcLem.sumN 0 L : Nat) : Int) := by
  have := sum_f ⟨L.toArray⟩ (by show L.toArray.size ≤ _; simp; omega)
  exact Ev.of (fun k => splicerref03_Sum.mono _ k) this
def stepOk (la lf : Int) (i : Nat) (x : S53) : Bool := decide (la < x.f0 ∧ x.f0 ≤ 2147483648 ∧ lf ≤ x.f1 ∧ x.f1 ≤ 131072 ∧ (i = 0 → x.f1 = 0))
def rightS : Int → Int → Nat → List S53 → Bool
  | _, _, _, [] => true
  | la, lf, i, x :: l => if stepOk la lf i x = true then rightS x.f0 x.f1 (i + 1) l else false
theorem rdT (l : List S53) (i : Nat) (h : i < l.length) : rd_T53 l (i : Int) = l[i] := by
  unfold rd_T53; rw [Int.toNat_natCast, List.getD_eq_getElem?_getD, List.getElem?_eq_getElem h]; rfl
theorem wS (i : Nat) (h : i < 1000000000) : wrap64 ((i : Int) + 1) = ((i + 1 : Nat) : Int) := by unfold wrap64; omega
theorem wP (i : Nat) (h : i < 1000000000) : wrap64 (((i + 1 : Nat) : Int) - 1) = (i : Int) := by unfold wrap64; omega
theorem right_p (l : List S53) (hl : l.length ≤ 262144) : ∀ (d i : Nat) (la lf : Int), i + d = l.length → (i = 0 → lf = 0) → Ev (fun k => index_Right.l0 k l l (l.length : Int) (i : Int) la lf) (rightS la lf i (l.drop i)) := by
  intro d
  induction d with
  | zero =>
    intro i la lf hi h0
    refine Ev.step (f := fun _ => some true) (fun k => ?_) ?_
    · simp only [index_Right.l0]; rw [if_neg (by omega), decide_eq_true (by omega)]
    · rw [List.drop_eq_nil_of_le (by omega)]; exact Ev.now _
  | succ d ih =>
    intro i la lf hi h0
    have hlt : i < l.length := by omega
    rw [List.drop_eq_getElem_cons hlt]
    have hoff : ∀ q r s t : Int, Ev (fun k => index_Right.j1 k l (i : Int) l (l.length : Int) (i : Int) true q r s t) false := fun q r s t => by
      refine Ev.step (f := fun _ => some false) (fun k => ?_) (Ev.now _)
      simp only [index_Right.j1]; rw [if_pos trivial]
    have hnext := ih (i + 1) l[i].f0 l[i].f1 (by omega) (fun h => by omega)
    rw [← wS i (by omega)] at hnext
    generalize hx : l[i] = x at *
    have hstep : ∀ {r : Bool}, Ev (fun k => if x.f0 ≤ la then index_Right.j1 k l (i : Int) l (l.length : Int) (i : Int) true la lf x.f0 x.f1 else index_Right.j1 k l (i : Int) l (l.length : Int) (i : Int) (decide (x.f0 > 2147483648)) la lf x.f0 x.f1) r → Ev (fun k => index_Right.l0 k l l (l.length : Int) (i : Int) la lf) r := fun {r} h => by
      refine Ev.step (fun k => ?_) h
      simp only [index_Right.l0]; rw [if_pos (by omega), if_pos (by omega), if_pos (by omega), rdT l i hlt, hx]
    refine hstep ?_
    show Ev _ (if stepOk la lf i x = true then rightS x.f0 x.f1 (i + 1) (l.drop (i + 1)) else false)
    by_cases c1 : x.f0 ≤ la
    · have : stepOk la lf i x = false := by unfold stepOk; rw [decide_eq_false (by omega)]
      simp only [if_pos c1, this]; exact hoff _ _ _ _
    · simp only [if_neg c1]
      by_cases c2 : x.f0 > 2147483648
      · have : stepOk la lf i x = false := by unfold stepOk; rw [decide_eq_false (by omega)]
        simp only [decide_eq_true c2, this]; exact hoff _ _ _ _
      · simp only [decide_eq_false c2]
        refine Ev.step (f := fun k => if x.f1 < lf then some false else if x.f1 > 131072 then some false else if (i : Int) = 0 then (if x.f1 > 0 then some false else index_Right.l0 k l l (l.length : Int) (wrap64 ((i : Int) + 1)) x.f0 x.f1) else index_Right.l0 k l l (l.length : Int) (wrap64 ((i : Int) + 1)) x.f0 x.f1) (fun k => ?_) ?_
        · simp only [index_Right.j1]; rw [if_neg (by decide)]
        · by_cases c3 : x.f1 < lf
          · have : stepOk la lf i x = false := by unfold stepOk; rw [decide_eq_false (by omega)]
            simp only [if_pos c3, this]; exact Ev.now _
          · by_cases c4 : x.f1 > 131072
            · have : stepOk la lf i x = false := by unfold stepOk; rw [decide_eq_false (by omega)]
              simp only [if_neg c3, if_pos c4, this]; exact Ev.now _
            · by_cases c5 : (i : Int) = 0
              · by_cases c6 : x.f1 > 0
                · have : stepOk la lf i x = false := by unfold stepOk; rw [decide_eq_false (by omega)]
                  simp only [if_neg c3, if_neg c4, if_pos c5, if_pos c6, this]; exact Ev.now _
                · have h00 := h0 (by omega)
                  have : stepOk la lf i x = true := by unfold stepOk; rw [decide_eq_true (by omega)]
                  simp only [if_neg c3, if_neg c4, if_pos c5, if_neg c6, this]; exact hnext
              · have : stepOk la lf i x = true := by unfold stepOk; rw [decide_eq_true (by omega)]
                simp only [if_neg c3, if_neg c4, if_neg c5, this]; exact hnext
theorem right_r (l : List S53) (hl : l.length ≤ 262144) : ∀ (d i : Nat) (la lf : Int), i + d = l.length → (i = 0 ∧ la = -1 ∧ lf = 0) ∨ (∃ j, ∃ h : j < l.length, i = j + 1 ∧ l[j].f0 = la ∧ l[j].f1 = lf ∧ 0 ≤ la ∧ 0 ≤ lf) → Ev (fun k => splicerref32_Right.l0 k l (i : Int)) (rightS la lf i (l.drop i)) := by
  intro d
  induction d with
  | zero =>
    intro i la lf hi h0
    refine Ev.step (f := fun _ => some true) (fun k => ?_) ?_
    · simp only [splicerref32_Right.l0]; rw [if_neg (by omega), decide_eq_true (by omega)]
    · rw [List.drop_eq_nil_of_le (by omega)]; exact Ev.now _
  | succ d ih =>
    intro i la lf hi h0
    have hlt : i < l.length := by omega
    have hla : -1 ≤ la ∧ 0 ≤ lf := by
      rcases h0 with ⟨_, h1, h2⟩ | ⟨_, _, _, _, _, h1, h2⟩ <;> omega
    rw [List.drop_eq_getElem_cons hlt]
    have hoff : Ev (fun k => splicerref32_Right.j1 k l (i : Int) true) false := by
      refine Ev.step (f := fun _ => some false) (fun k => ?_) (Ev.now _)
      simp only [splicerref32_Right.j1]; rw [if_pos trivial]
    have hnext := fun (hz : 0 ≤ l[i].f0 ∧ 0 ≤ l[i].f1) => ih (i + 1) l[i].f0 l[i].f1 (by omega) (.inr ⟨i, hlt, rfl, rfl, rfl, hz.1, hz.2⟩)
    rw [← wS i (by omega)] at hnext
    have hx := rdT l i hlt
    generalize hxe : l[i] = x at hx hnext
    refine Ev.step (f := fun k => if x.f0 < 0 then splicerref32_Right.j1 k l (i : Int) true else if x.f0 > 2147483648 then splicerref32_Right.j1 k l (i : Int) true else if x.f1 < 0 then splicerref32_Right.j1 k l (i : Int) true else splicerref32_Right.j1 k l (i : Int) (decide (x.f1 > 131072))) (fun k => ?_) ?_
    · simp only [splicerref32_Right.l0]; rw [if_pos (by omega), if_pos (by omega), hx]
    show Ev _ (if stepOk la lf i x = true then rightS x.f0 x.f1 (i + 1) (l.drop (i + 1)) else false)
    by_cases c1 : x.f0 < 0
    · have : stepOk la lf i x = false := by unfold stepOk; rw [decide_eq_false (by omega)]
      simp only [if_pos c1, this]; exact hoff
    by_cases c2 : x.f0 > 2147483648
    · have : stepOk la lf i x = false := by unfold stepOk; rw [decide_eq_false (by omega)]
      simp only [if_neg c1, if_pos c2, this]; exact hoff
    by_cases c3 : x.f1 < 0
    · have : stepOk la lf i x = false := by unfold stepOk; rw [decide_eq_false (by omega)]
      simp only [if_neg c1, if_neg c2, if_pos c3, this]; exact hoff
    by_cases c4 : x.f1 > 131072
    · have : stepOk la lf i x = false := by unfold stepOk; rw [decide_eq_false (by omega)]
      simp only [if_neg c1, if_neg c2, if_neg c3, decide_eq_true c4, this]; exact hoff
    simp only [if_neg c1, if_neg c2, if_neg c3, decide_eq_false c4]
    have hn := hnext ⟨by omega, by omega⟩
    rcases h0 with ⟨rfl, rfl, rfl⟩ | ⟨j, hj, rfl, h1, h2, h3, h4⟩
    · refine Ev.step (f := fun k => if x.f1 = 0 then splicerref32_Right.l0 k l (wrap64 (((0 : Nat) : Int) + 1)) else some false) (fun k => ?_) ?_
      · simp only [splicerref32_Right.j1]
        rw [if_neg (by decide), if_pos (by omega), if_pos (by omega), if_pos (by omega), hx]
        by_cases c : x.f1 = 0
        · rw [if_pos c, if_pos c, if_neg (by omega)]
        · rw [if_neg c, if_neg c]
      · by_cases c : x.f1 = 0
        · have : stepOk (-1) 0 0 x = true := by unfold stepOk; rw [decide_eq_true (by omega)]
          simp only [if_pos c, this]; exact hn
        · have : stepOk (-1) 0 0 x = false := by unfold stepOk; rw [decide_eq_false (by omega)]
          simp only [if_neg c, this]; exact Ev.now _
    · have hp := rdT l j hj
      refine Ev.step (f := fun k => if x.f0 ≤ la then some false else if x.f1 < lf then some false else splicerref32_Right.l0 k l (wrap64 (((j + 1 : Nat) : Int) + 1))) (fun k => ?_) ?_
      · simp only [splicerref32_Right.j1]
        rw [if_neg (by decide), if_neg (by omega), if_pos (by omega), if_pos (by omega), if_pos (by omega), wP j (by omega), if_pos (by omega), if_pos (by omega), hx, hp, h1, h2]
      · by_cases c : x.f0 ≤ la
        · have : stepOk la lf (j + 1) x = false := by unfold stepOk; rw [decide_eq_false (by omega)]
          simp only [if_pos c, this]; exact Ev.now _
        · by_cases c' : x.f1 < lf
          · have : stepOk la lf (j + 1) x = false := by unfold stepOk; rw [decide_eq_false (by omega)]
            simp only [if_neg c, if_pos c', this]; exact Ev.now _
          · have : stepOk la lf (j + 1) x = true := by unfold stepOk; rw [decide_eq_true (by omega)]
            simp only [if_neg c, if_neg c', this]; exact hn
theorem rightE (l : List S53) (hl : l.length ≤ 262144) : Ev (fun k => index_Right.f k l) (rightS (-1) 0 0 l) ∧ Ev (fun k => splicerref32_Right.f k l) (rightS (-1) 0 0 l) := by
  have h1 := right_p l hl l.length 0 (-1) 0 (by omega) (fun _ => rfl)
  have h2 := right_r l hl l.length 0 (-1) 0 (by omega) (.inl ⟨rfl, rfl, rfl⟩)
  rw [List.drop_zero] at h1 h2
  exact ⟨h1, h2⟩
theorem right_fit : ∀ (l : List S53) (la lf : Int) (i : Nat), -1 ≤ la → 0 ≤ lf → rightS la lf i l = true → ∀ x ∈ l, 0 ≤ x.f0 ∧ x.f0 ≤ 2147483648 ∧ 0 ≤ x.f1 ∧ x.f1 ≤ 131072 := by
  intro l
  induction l with
  | nil => intro _ _ _ _ _ _ x hx; cases hx
  | cons y l ih =>
    intro la lf i h1 h2 h x hx
    unfold rightS at h
    split at h
    · rename_i hs
      unfold stepOk at hs
      simp only [decide_eq_true_eq] at hs
      rcases List.mem_cons.1 hx with rfl | hx
      · exact ⟨by omega, by omega, by omega, by omega⟩
      · exact ih y.f0 y.f1 (i + 1) (by omega) (by omega) h x hx
    · cases h
theorem sizeB (L : List UInt8) : (⟨L.toArray⟩ : ByteArray).size = L.length := by show L.toArray.size = _; simp
theorem appB (a b : List UInt8) : (⟨a.toArray⟩ : ByteArray) ++ ⟨b.toArray⟩ = ⟨(a ++ b).toArray⟩ := by apply ByteArray.ext; simp
theorem ev_pos {α : Type} {c : Prop} [Decidable c] {g f : Nat → Option α} {r : α} (hc : c) (h1 : Ev g r) : Ev (fun k => if c then g k else f k) r := by simpa only [if_pos hc] using h1
theorem put_l (l : List S53) (hl : l.length ≤ 1000) (hf : ∀ x ∈ l, 0 ≤ x.f0 ∧ x.f0 ≤ 2147483648 ∧ 0 ≤ x.f1 ∧ x.f1 ≤ 131072) : ∀ d i : Nat, i + d = l.length → Ev (fun k => splicerref32_Put.l0 k l ⟨(slotsL (l.take i)).toArray⟩ (i : Int)) (⟨(putI l).toArray⟩, 0) := by
  intro d
  induction d with
  | zero =>
    intro i hi
    have hlen := slotsL_len l
    have hsum := CrcLem.sumN_lt 0 (slotsL l) (by decide)
    rw [List.take_of_length_le (by omega)]
    refine Ev.step (f := fun k => (splicerref03_Sum.f k ⟨(slotsL l).toArray⟩).bind fun t140 => ((splicerref02_Num.f k (wrap64 (t140)) 4).bind fun t141 => (if (⟨(slotsL l).toArray⟩ : ByteArray).size + t141.size ≤ 9223372036854775807 then (some ((⟨(slotsL l).toArray⟩ : ByteArray) ++ t141, 0)) else (none)))) (fun k => ?_) ?_
    · simp only [splicerref32_Put.l0]; rw [if_neg (by omega)]
    · refine Ev.bind (sumE _ (by omega)) ?_
      rw [show wrap64 ((CrcLem.sumN 0 (slotsL l) : Nat) : Int) = ((CrcLem.sumN 0 (slotsL l) : Nat) : Int) by unfold wrap64; omega]
      refine Ev.bind (numE _ (by omega) (by omega)) ?_
      have hn := numL_len ((CrcLem.sumN 0 (slotsL l) : Nat) : Int) 4
      simp only [show ((4 : Int)).toNat = 4 from rfl] at hn
      simp only [sizeB, appB]
      rw [if_pos (by omega)]
      exact Ev.now _
  | succ d ih =>
    intro i hi
    have hlt : i < l.length := by omega
    have hx := hf l[i] (List.getElem_mem hlt)
    have hlen := slotsL_len (l.take i)
    rw [List.length_take] at hlen
    have hn0 := numL_len l[i].f0 4
    have hn1 := numL_len l[i].f1 4
    simp only [show ((4 : Int)).toNat = 4 from rfl] at hn0 hn1
    have hnext := ih (i + 1) (by omega)
    rw [slotsL_snoc l i hlt, ← wS i (by omega)] at hnext
    refine Ev.step (f := fun k => (splicerref02_Num.f k l[i].f0 4).bind fun t137 => (if (⟨(slotsL (l.take i)).toArray⟩ : ByteArray).size + t137.size ≤ 9223372036854775807 then ((splicerref02_Num.f k l[i].f1 4).bind fun t139 => (if ((⟨(slotsL (l.take i)).toArray⟩ : ByteArray) ++ t137).size + t139.size ≤ 9223372036854775807 then (splicerref32_Put.l0 k l (((⟨(slotsL (l.take i)).toArray⟩ : ByteArray) ++ t137) ++ t139) (wrap64 ((i : Int) + 1))) else (none))) else (none))) (fun k => ?_) ?_
    · simp only [splicerref32_Put.l0]; rw [if_pos (by omega), if_pos (by omega), rdT l i hlt]
    · refine Ev.bind (numE _ (by omega) (by omega)) ?_
      simp only [sizeB, appB]
      refine ev_pos (by omega) ?_
      refine Ev.bind (numE _ (by omega) (by omega)) ?_
      simp only [sizeB, appB, List.length_append]
      refine ev_pos (by omega) ?_
      rw [List.append_assoc]
      exact hnext
theorem rputE (l : List S53) (hl : l.length ≤ 1000) : Ev (fun k => splicerref32_Put.f k l) (if rightS (-1) 0 0 l = true then (⟨(putI l).toArray⟩, 0) else (⟨#[]⟩, 1)) := by
  refine Ev.bind (rightE l (by omega)).2 ?_
  cases h : rightS (-1) 0 0 l with
  | true =>
    have := put_l l hl (right_fit l (-1) 0 0 (by omega) (by omega) h) l.length 0 (by omega)
    exact this
  | false => exact Ev.now _
theorem putE (l : List S53) (hl : l.length ≤ 1000) : Ev (fun k => index_Put.f k CrcX.crcTab l) (if rightS (-1) 0 0 l = true then (⟨(putI l).toArray⟩, 0) else (⟨#[]⟩, 1)) := by
  unfold index_Put.f
  refine ev_pos rfl ?_
  refine Ev.bind (rightE l (by omega)).1 ?_
  cases h : rightS (-1) 0 0 l with
  | true =>
    have hf := right_fit l (-1) 0 0 (by omega) (by omega) h
    have : slotsFit l = true := List.all_eq_true.2 fun x hx => by have := hf x hx; rw [decide_eq_true_eq]; omega
    rw [if_pos rfl, if_pos ⟨hl, this⟩]
    exact Ev.now _
  | false => exact Ev.now _
theorem awakeE : Ev (fun k => splicerlaw32_awake.f k) true := Ev.of (k := 40) (fun k => splicerlaw32_awake.mono k) (by decide +kernel)
end Go.Proofs.Ythdlikiakegekaa.IdxLem
