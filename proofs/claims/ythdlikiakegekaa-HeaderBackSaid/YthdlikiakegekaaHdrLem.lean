import Derived.Test.YthdlikiakegekaaHx2
import Derived.Test.YthdlikiakegekaaHx3
import Derived.Test.YthdlikiakegekaaHx4
import Derived.Test.YthdlikiakegekaaHx5
import Derived.Test.YthdlikiakegekaaHx7
/-! What header and its reference tell: plain lists. -/
set_option linter.unusedVariables false
namespace Go.Proofs.Ythdlikiakegekaa.HdrLem
open Go.RowKit Go.Proofs.Ythdlikiakegekaa.S Go.Proofs.YthdlikiakegekaaW.PrintWords Go.Proofs.YthdlikiakegekaaW.PrintLast Go.Proofs.YthdlikiakegekaaW.PrintMore
section
open OctW
theorem octw_l (n k : Nat) (hn : n < 9223372036854775808) (hk : k ≤ 7) (d : Nat) : ∀ i fuel, i + d = k → d < fuel → splicerref02_Num.l0 fuel (n : Int) (k : Int) ⟨(beN n i).toArray⟩ (i : Int) = some ⟨(beN n k).toArray⟩ := by
  induction d with
  | zero =>
    intro i fuel hi hf
    obtain ⟨fuel, rfl⟩ : ∃ m, fuel = m + 1 := ⟨fuel - 1, by omega⟩
    obtain rfl : i = k := by omega
    simp only [splicerref02_Num.l0]
    rw [if_neg (by omega)]
  | succ d ih =>
    intro i fuel hi hf
    obtain ⟨fuel, rfl⟩ : ∃ m, fuel = m + 1 := ⟨fuel - 1, by omega⟩
    simp only [splicerref02_Num.l0]
    have e8 : wrap64 (8 * (i : Int)) = ((8 * i : Nat) : Int) := by unfold wrap64; omega
    rw [if_pos (by omega), e8, if_pos (by omega), Option.bind_some]
    have hb : Go.bits .and .i64 (shr .i64 (n : Int) ((8 * i : Nat) : Int)) 255 % 256 = ((n / 256 ^ i % 256 : Nat) : Int) := by
      have e1 : shr .i64 (n : Int) ((8 * i : Nat) : Int) = ((n / 256 ^ i : Nat) : Int) := by
        unfold shr
        rw [Int.toNat_natCast, Nat.min_eq_left (by show 8 * i ≤ 64; omega)]
        exact shr8 n i
      rw [e1]
      have hle : n / 256 ^ i ≤ n := Nat.div_le_self _ _
      generalize n / 256 ^ i = x at *
      have := bits_mask .i64 63 (by decide) (fun n h0 h1 => by rw [i64_w]; unfold wrap64; omega) 8 (by decide) (x : Int) (by omega) (by omega)
      rw [show ((2 : Int) ^ 8 - 1) = 255 from rfl] at this
      rw [this]; omega
    rw [hb]
    have hs : strOfNums [((n / 256 ^ i % 256 : Nat) : Int)] ++ (⟨(beN n i).toArray⟩ : ByteArray) = ⟨(beN n (i + 1)).toArray⟩ := by
      rw [show strOfNums [((n / 256 ^ i % 256 : Nat) : Int)] = ⟨#[UInt8.ofNat (n / 256 ^ i % 256)]⟩ by simp only [strOfNums, List.map_cons, List.map_nil, Int.toNat_natCast]]
      apply ByteArray.ext
      simp [beN]
    rw [hs, if_pos (by rw [strOfNums_size]; show 1 + (beN n i).toArray.size ≤ _; simp [beN_length]; omega), show wrap64 ((i : Int) + 1) = ((i + 1 : Nat) : Int) by unfold wrap64; omega]
    exact ih (i + 1) fuel (by omega) (by omega)
theorem octw_num (n k : Int) (h0 : -9223372036854775808 ≤ n) (h1 : n ≤ 9223372036854775807) (hk0 : -9223372036854775808 ≤ k) (hk1 : k ≤ 9223372036854775807) : splicerref02_Num.f 40 n k = some ⟨(numL n k).toArray⟩ := by
  unfold splicerref02_Num.f
  by_cases c1 : k < 1
  · rw [if_pos c1, numL, if_neg (fun h => by have := h.1; omega)]; rfl
  · rw [if_neg c1]
    by_cases c2 : k > 7
    · rw [if_pos c2, numL, if_neg (fun h => by have := h.2.1; omega)]; rfl
    · rw [if_neg c2]
      by_cases c3 : n < 0
      · rw [if_pos c3, numL, if_neg (fun h => by have := h.2.2.1; omega)]; rfl
      · obtain ⟨n, rfl⟩ := Int.eq_ofNat_of_zero_le (show 0 ≤ n by omega)
        obtain ⟨k, rfl⟩ := Int.eq_ofNat_of_zero_le (show 0 ≤ k by omega)
        have e8 : wrap64 (8 * (k : Int)) = ((8 * k : Nat) : Int) := by unfold wrap64; omega
        rw [if_neg c3, e8, if_pos (by omega)]
        have hs : shl .i64 1 ((8 * k : Nat) : Int) = ((256 ^ k : Nat) : Int) := by
          unfold shl
          have hp : 256 ^ k ≤ 72057594037927936 := Nat.le_trans (Nat.pow_le_pow_right (by decide) (show k ≤ 7 by omega)) (by decide)
          rw [Int.toNat_natCast, Nat.min_eq_left (by show 8 * k ≤ 64; omega), Int.one_mul, pow8, i64_w]
          generalize 256 ^ k = p at *
          unfold wrap64; omega
        rw [hs]
        have hfit := fits_iff n k (by omega) (by omega)
        have hpos : 0 < 256 ^ k := Nat.pow_pos (by decide)
        by_cases c4 : 256 ^ k ≤ n
        · rw [decide_eq_true (by omega), numL, if_neg (fun h => by have := (Nat.div_eq_zero_iff_lt hpos).1 (hfit.1 h); omega)]; rfl
        · rw [decide_eq_false (by omega), numL, if_pos (hfit.2 (Nat.div_eq_of_lt (by omega))), Int.toNat_natCast, Int.toNat_natCast]
          exact octw_l n k (by omega) (by omega) k 0 39 (by omega) (by omega)
end
section
open CrcLem CrcW
theorem step_f (n : Nat) (h : n < 4294967296) : splicerref03_Step.f n = some ((stepN n : Nat) : Int) := by
  unfold splicerref03_Step.f stepN
  rw [Int.tmod_eq_emod_of_nonneg (by omega), Int.tdiv_eq_ediv_of_nonneg (by omega)]
  by_cases hn : n % 2 = 1
  · rw [if_pos (by omega), if_pos hn, show (n : Int) / 2 % 4294967296 = ((n / 2 : Nat) : Int) by omega]
    exact congrArg some (xor_u32 (n / 2) 3988292384 (by omega) (by decide))
  · rw [if_neg (by omega), if_neg hn]; congr 1; omega

theorem more_l (s : ByteArray) (hs : s.size ≤ 140737488351232) (d : Nat) : ∀ (k n i : Nat), n < 4294967296 → i ≤ s.size → s.size - i = d → 20 * d + 20 ≤ k →
    splicerref03_More.l0 k s n i = some ((4294967295 ^^^ reg n (s.data.toList.drop i) : Nat) : Int) := by
  induction d with
  | zero =>
    intro k n i hn hi hd hk
    obtain ⟨k, rfl⟩ : ∃ m, k = m + 1 := ⟨k - 1, by omega⟩
    simp only [splicerref03_More.l0]
    rw [if_neg (by omega), List.drop_of_length_le (by simp; omega)]
    exact congrArg some (xor_u32 4294967295 n (by decide) hn)
  | succ d ih =>
    intro k n i hn hi hd hk
    obtain ⟨k, rfl⟩ : ∃ m, k = m + 1 := ⟨k - 1, by omega⟩
    simp only [splicerref03_More.l0]
    have hlt : i < s.size := by omega
    have hb := byte_lt s[i]
    have hbt : bt s i = (s[i].toNat : Int) := by
      have := bt_at s i (by simpa using hlt)
      rw [← this]; simp
    have inner : ∀ (j k m a : Nat), m < 4294967296 → a + j = 8 → 20 * d + 21 + j ≤ k → splicerref03_More.l1 k s m i a = some ((4294967295 ^^^ reg (steps j m) (s.data.toList.drop (i + 1)) : Nat) : Int) := by
      intro j
      induction j with
      | zero =>
        intro k m a hm ha hk
        obtain ⟨k, rfl⟩ : ∃ m, k = m + 1 := ⟨k - 1, by omega⟩
        simp only [splicerref03_More.l1]
        rw [if_neg (by omega), show wrap64 ((i : Int) + 1) = ((i + 1 : Nat) : Int) by unfold wrap64; omega]
        exact ih k m (i + 1) hm (by omega) (by omega) (by omega)
      | succ j ihj =>
        intro k m a hm ha hk
        obtain ⟨k, rfl⟩ : ∃ m, k = m + 1 := ⟨k - 1, by omega⟩
        simp only [splicerref03_More.l1]
        rw [if_pos (by omega), step_f m hm, Option.bind_some, show wrap64 ((a : Int) + 1) = ((a + 1 : Nat) : Int) by unfold wrap64; omega, ihj k _ (a + 1) (stepN_lt m hm) (by omega) (by omega)]
        rfl
    rw [if_pos (by omega), if_pos (by omega), hbt, show ((s[i].toNat : Nat) : Int) % 4294967296 = ((s[i].toNat : Nat) : Int) by omega, xor_u32 n _ hn (by omega)]
    have e : s.data.toList.drop i = s[i] :: s.data.toList.drop (i + 1) := by
      rw [List.drop_eq_getElem_cons (by simpa using hlt)]; rfl
    rw [e, reg_cons]
    exact inner 8 k _ 0 (xor32 hn (by omega)) (by decide) (by omega)
theorem more_f (s : ByteArray) (hs : s.size ≤ 140737488351232) (sum : Nat) (h : sum < 4294967296) : splicerref03_More.f (20 * s.size + 20) sum s = some ((sumN sum s.data.toList : Nat) : Int) := by
  unfold splicerref03_More.f
  rw [show bits .xor .u32 IntKind.u32.max (sum : Int) = ((4294967295 ^^^ sum : Nat) : Int) from xor_u32 4294967295 sum (by decide) h]
  exact more_l s hs s.size _ _ 0 (xor32 (by decide) h) (by omega) (by omega) (by omega)
theorem sum_f (s : ByteArray) (hs : s.size ≤ 140737488351232) : splicerref03_Sum.f (20 * s.size + 20) s = some ((sumN 0 s.data.toList : Nat) : Int) := by
  unfold splicerref03_Sum.f
  have := more_f s hs 0 (by decide)
  rw [show ((0 : Nat) : Int) = 0 from rfl] at this
  rw [this]; rfl
end
open OctW HdrW
theorem numE (n k : Int) (h0 : -9223372036854775808 ≤ n) (h1 : n ≤ 9223372036854775807) (k0 : -9223372036854775808 ≤ k) (k1 : k ≤ 9223372036854775807) : Ev (fun K => splicerref02_Num.f K n k) ⟨(numL n k).toArray⟩ := Ev.of (fun K => splicerref02_Num.mono _ _ K) (octw_num n k h0 h1 k0 k1)
theorem sumE (L : List UInt8) (h : L.length ≤ 1000000) : Ev (fun k => splicerref03_Sum.f k ⟨L.toArray⟩) ((CrcLem.sumN 0 L : Nat) : Int) := by
  have := sum_f ⟨L.toArray⟩ (by show L.toArray.size ≤ _; simp; omega)
  exact Ev.of (fun k => splicerref03_Sum.mono _ k) this
theorem sizeB (L : List UInt8) : (⟨L.toArray⟩ : ByteArray).size = L.length := by show L.toArray.size = _; simp
theorem appB (a b : List UInt8) : (⟨a.toArray⟩ : ByteArray) ++ ⟨b.toArray⟩ = ⟨(a ++ b).toArray⟩ := by apply ByteArray.ext; simp
theorem ev_pos {α : Type} {c : Prop} [Decidable c] {g f : Nat → Option α} {r : α} (hc : c) (h1 : Ev g r) : Ev (fun k => if c then g k else f k) r := by simpa only [if_pos hc] using h1
theorem ev_neg {α : Type} {c : Prop} [Decidable c] {g f : Nat → Option α} {r : α} (hc : ¬ c) (h1 : Ev f r) : Ev (fun k => if c then g k else f k) r := by simpa only [if_neg hc] using h1
theorem val_be (x k : Nat) : beVal (beN x k) = x % 256 ^ k := by
  suffices h : ∀ a, (beN x k).foldl (fun n b => n * 256 + b.toNat) a = a * 256 ^ k + x % 256 ^ k by
    have := h 0
    rw [Nat.zero_mul, Nat.zero_add] at this
    exact this
  induction k with
  | zero => intro a; show a = a * 1 + x % 1; omega
  | succ k ih =>
    intro a
    show (beN x k).foldl _ (a * 256 + (UInt8.ofNat (x / 256 ^ k % 256)).toNat) = _
    rw [ih, UInt8.toNat_ofNat', show x / 256 ^ k % 256 % 2 ^ 8 = x / 256 ^ k % 256 by omega, Nat.pow_succ, Nat.mod_mul, Nat.add_mul, Nat.mul_assoc, Nat.mul_comm 256 (256 ^ k), Nat.mul_comm (x / 256 ^ k % 256) (256 ^ k), Nat.add_assoc, Nat.add_comm (x % 256 ^ k)]
theorem numk (n : Int) (k : Nat) (hk1 : 1 ≤ k) (hk7 : k ≤ 7) (h0 : 0 ≤ n) (h1 : n < ((256 ^ k : Nat) : Int)) : numL n k = beN n.toNat k := by
  unfold numL
  rw [if_pos ⟨by omega, by omega, h0, by rw [Int.toNat_natCast]; show n < ((256 : Nat) : Int) ^ k; rw [← Int.natCast_pow]; exact h1⟩]; rfl
theorem numk_len (n : Int) (k : Nat) (hk1 : 1 ≤ k) (hk7 : k ≤ 7) (h0 : 0 ≤ n) (h1 : n < ((256 ^ k : Nat) : Int)) : (numL n k).length = k := by rw [numk n k hk1 hk7 h0 h1, beN_length]
theorem numk_val (n : Int) (k : Nat) (hk1 : 1 ≤ k) (hk7 : k ≤ 7) (h0 : 0 ≤ n) (h1 : n < ((256 ^ k : Nat) : Int)) : ((beVal (numL n k) : Nat) : Int) = n := by
  rw [numk n k hk1 hk7 h0 h1, val_be, Nat.mod_eq_of_lt (by omega)]; omega
theorem val_inj : ∀ (n : Nat) (x y : List UInt8), x.length = n → y.length = n → beVal x = beVal y → x = y := by
  intro n
  induction n with
  | zero => intro x y hx hy _; rw [List.eq_nil_of_length_eq_zero hx, List.eq_nil_of_length_eq_zero hy]
  | succ n ih =>
    intro x y hx hy h
    rcases List.eq_nil_or_concat x with rfl | ⟨x', b, rfl⟩
    · cases hx
    · rcases List.eq_nil_or_concat y with rfl | ⟨y', c, rfl⟩
      · cases hy
      · rw [List.concat_eq_append] at *
        rw [List.concat_eq_append] at *
        rw [beVal_snoc, beVal_snoc] at h
        rw [List.length_append, List.length_singleton] at hx hy
        have h1 := UInt8.toNat_lt b
        have h2 := UInt8.toNat_lt c
        rw [ih x' y' (by omega) (by omega) (by omega), UInt8.toNat_inj.1 (show b.toNat = c.toNat by omega)]

def rightB (a0 a1 a2 a3 a4 a5 p : Int) : Bool := decide ((a0 = 1 ∨ a0 = 2) ∧ (0 ≤ a2 ∧ a2 ≤ 10) ∧ (1 ≤ a1 ∧ a1 ≤ 192000) ∧ (0 ≤ a3 ∧ a3 ≤ 128) ∧ (0 ≤ a4 ∧ a4 ≤ 128) ∧ (0 ≤ a5 ∧ a5 ≤ 131072) ∧ (0 ≤ p ∧ p ≤ 262144))
theorem betw (x lo hi : Int) : header_between.f x lo hi = some (decide (lo ≤ x ∧ x ≤ hi)) := by
  unfold header_between.f
  split
  · congr 1; rw [decide_eq_decide]; omega
  · congr 1; symm; rw [decide_eq_false_iff_not]; omega
theorem ite_d {c d : Prop} [Decidable c] [Decidable d] {x : Option Bool} (hx : x = some (decide d)) : (if decide c = true then x else some false) = some (decide (c ∧ d)) := by
  by_cases h : c
  · rw [if_pos (by simpa using h), hx]; congr 1; rw [decide_eq_decide]; exact ⟨fun hd => ⟨h, hd⟩, fun hd => hd.2⟩
  · rw [if_neg (by simpa using h)]; congr 1; symm; rw [decide_eq_false_iff_not]; exact fun hd => h hd.1
theorem hright (a0 a1 a2 a3 a4 a5 p : Int) : header_Right.f a0 a1 a2 a3 a4 a5 p = some (rightB a0 a1 a2 a3 a4 a5 p) := by
  unfold header_Right.f
  rw [betw, betw, betw, betw, betw, betw, betw]
  simp only [Option.bind_some]
  rw [ite_d (ite_d (ite_d (ite_d (ite_d (ite_d rfl)))))]
  unfold rightB
  congr 1; rw [decide_eq_decide]; omega
theorem rright (a0 a1 a2 a3 a4 a5 p : Int) : splicerref29_Right.f a0 a1 a2 a3 a4 a5 p = some (rightB a0 a1 a2 a3 a4 a5 p) := by
  have key : ∀ (x : Option Bool), x = some (decide ((0 ≤ a2 ∧ a2 ≤ 10) ∧ (1 ≤ a1 ∧ a1 ≤ 192000) ∧ (0 ≤ a3 ∧ a3 ≤ 128) ∧ (0 ≤ a4 ∧ a4 ≤ 128) ∧ (0 ≤ a5 ∧ a5 ≤ 131072) ∧ (0 ≤ p ∧ p ≤ 262144))) → (a0 = 1 ∨ a0 = 2) → x = some (rightB a0 a1 a2 a3 a4 a5 p) := by
    intro x hx h
    rw [hx]; unfold rightB
    congr 1; rw [decide_eq_decide]; exact ⟨fun hd => ⟨h, hd⟩, fun hd => hd.2⟩
  have ite_p : ∀ {c d : Prop} [Decidable c] [Decidable d] {x : Option Bool}, x = some (decide d) → (if c then x else some false) = some (decide (c ∧ d)) := by
    intro c d _ _ x hx
    by_cases h : c
    · rw [if_pos h, hx]; congr 1; rw [decide_eq_decide]; exact ⟨fun hd => ⟨h, hd⟩, fun hd => hd.2⟩
    · rw [if_neg h]; congr 1; symm; rw [decide_eq_false_iff_not]; exact fun hd => h hd.1
  have inner : (if a2 ≥ 0 then (if a2 ≤ 10 then (if a1 ≥ 1 then (if a1 ≤ 192000 then (if a3 ≥ 0 then (if a3 ≤ 128 then (if a4 ≥ 0 then (if a4 ≤ 128 then (if a5 ≥ 0 then (if a5 ≤ 131072 then (if p ≥ 0 then (some (decide (p ≤ 262144))) else (some false)) else (some false)) else (some false)) else (some false)) else (some false)) else (some false)) else (some false)) else (some false)) else (some false)) else (some false)) else (some false)) = some (decide ((0 ≤ a2 ∧ a2 ≤ 10) ∧ (1 ≤ a1 ∧ a1 ≤ 192000) ∧ (0 ≤ a3 ∧ a3 ≤ 128) ∧ (0 ≤ a4 ∧ a4 ≤ 128) ∧ (0 ≤ a5 ∧ a5 ≤ 131072) ∧ (0 ≤ p ∧ p ≤ 262144))) := by
    rw [ite_p (ite_p (ite_p (ite_p (ite_p (ite_p (ite_p (ite_p (ite_p (ite_p (ite_p rfl))))))))))]
    congr 1; rw [decide_eq_decide]; omega
  unfold splicerref29_Right.f
  rw [inner]
  by_cases h1 : a0 = 1
  · rw [if_pos h1]; exact key _ rfl (.inl h1)
  · rw [if_neg h1]
    by_cases h2 : a0 = 2
    · rw [if_pos h2]; exact key _ rfl (.inr h2)
    · rw [if_neg h2]; unfold rightB
      congr 1; symm; rw [decide_eq_false_iff_not]; omega
theorem headW_eq (a0 a1 a2 a3 a4 a5 p : Int) : headW (fval a0 a1 a2 a3 a4 a5 p) (List.finRange 7) = magicL ++ (numL a0 1 ++ (numL a2 1 ++ (numL a1 3 ++ (numL a3 2 ++ (numL a4 2 ++ (numL a5 4 ++ (numL p 4 ++ []))))))) := rfl

theorem right_bd {a0 a1 a2 a3 a4 a5 p : Int} (h : rightB a0 a1 a2 a3 a4 a5 p = true) : (a0 = 1 ∨ a0 = 2) ∧ (0 ≤ a2 ∧ a2 ≤ 10) ∧ (1 ≤ a1 ∧ a1 ≤ 192000) ∧ (0 ≤ a3 ∧ a3 ≤ 128) ∧ (0 ≤ a4 ∧ a4 ≤ 128) ∧ (0 ≤ a5 ∧ a5 ≤ 131072) ∧ (0 ≤ p ∧ p ≤ 262144) := of_decide_eq_true h
def putA (a0 a1 a2 a3 a4 a5 p : Int) : ByteArray × Int := if rightB a0 a1 a2 a3 a4 a5 p = true then (⟨(headP (fval a0 a1 a2 a3 a4 a5 p)).toArray⟩, 0) else (⟨#[]⟩, 1)
theorem hput (a0 a1 a2 a3 a4 a5 p : Int) : header_Put.f CrcX.crcTab a0 a1 a2 a3 a4 a5 p = some (putA a0 a1 a2 a3 a4 a5 p) := by
  unfold header_Put.f putA
  rw [if_pos rfl, hright, Option.bind_some]
  by_cases h : rightB a0 a1 a2 a3 a4 a5 p = true
  · have := right_bd h
    rw [if_pos h, if_pos h, if_pos (by omega)]
  · rw [if_neg h, if_neg h]
theorem rputE (a0 a1 a2 a3 a4 a5 p : Int) : Ev (fun k => splicerref29_Put.f k a0 a1 a2 a3 a4 a5 p) (putA a0 a1 a2 a3 a4 a5 p) := by
  unfold splicerref29_Put.f putA
  rw [rright]
  simp only [Option.bind_some]
  by_cases h : rightB a0 a1 a2 a3 a4 a5 p = true
  · have hb := right_bd h
    have n0 := numL_len a0 1
    have n2 := numL_len a2 1
    have n1 := numL_len a1 3
    have n3 := numL_len a3 2
    have n4 := numL_len a4 2
    have n5 := numL_len a5 4
    have n6 := numL_len p 4
    have hcat : (((((((⟨#[83, 80, 76, 49]⟩ : ByteArray) ++ ⟨(numL a0 1).toArray⟩) ++ ⟨(numL a2 1).toArray⟩) ++ ⟨(numL a1 3).toArray⟩) ++ ⟨(numL a3 2).toArray⟩) ++ ⟨(numL a4 2).toArray⟩) ++ ⟨(numL a5 4).toArray⟩) ++ ⟨(numL p 4).toArray⟩ = ⟨(headW (fval a0 a1 a2 a3 a4 a5 p) (List.finRange 7)).toArray⟩ := by
      rw [show (⟨#[83, 80, 76, 49]⟩ : ByteArray) = ⟨magicL.toArray⟩ from rfl, appB, appB, appB, appB, appB, appB, appB, headW_eq]
      simp only [List.append_assoc, List.append_nil]
    have hl := headW_len (fval a0 a1 a2 a3 a4 a5 p) (List.finRange 7)
    rw [List.length_finRange] at hl
    have hP : headP (fval a0 a1 a2 a3 a4 a5 p) = headW (fval a0 a1 a2 a3 a4 a5 p) (List.finRange 7) ++ numL ((CrcLem.sumN 0 (headW (fval a0 a1 a2 a3 a4 a5 p) (List.finRange 7)) : Nat) : Int) 4 := rfl
    rw [if_pos h, hP]
    generalize headW (fval a0 a1 a2 a3 a4 a5 p) (List.finRange 7) = L at *
    have hsum := CrcLem.sumN_lt 0 L (by decide)
    have hw : wrap64 ((CrcLem.sumN 0 L : Nat) : Int) = ((CrcLem.sumN 0 L : Nat) : Int) := by unfold wrap64; omega
    have hm4 : (⟨#[83, 80, 76, 49]⟩ : ByteArray).size = 4 := rfl
    have nS := numL_len ((CrcLem.sumN 0 L : Nat) : Int) 4
    simp only [show (1 : Int).toNat = 1 from rfl, show (2 : Int).toNat = 2 from rfl, show (3 : Int).toNat = 3 from rfl, show (4 : Int).toNat = 4 from rfl] at n0 n1 n2 n3 n4 n5 n6 nS
    refine ev_pos h ?_
    refine Ev.bind (numE a0 1 (by omega) (by omega) (by decide) (by decide)) (ev_pos (by rw [sizeB]; omega) ?_)
    refine Ev.bind (numE a2 1 (by omega) (by omega) (by decide) (by decide)) (ev_pos (by simp only [ByteArray.size_append, sizeB, hm4]; omega) ?_)
    refine Ev.bind (numE a1 3 (by omega) (by omega) (by decide) (by decide)) (ev_pos (by simp only [ByteArray.size_append, sizeB, hm4]; omega) ?_)
    refine Ev.bind (numE a3 2 (by omega) (by omega) (by decide) (by decide)) (ev_pos (by simp only [ByteArray.size_append, sizeB, hm4]; omega) ?_)
    refine Ev.bind (numE a4 2 (by omega) (by omega) (by decide) (by decide)) (ev_pos (by simp only [ByteArray.size_append, sizeB, hm4]; omega) ?_)
    refine Ev.bind (numE a5 4 (by omega) (by omega) (by decide) (by decide)) (ev_pos (by simp only [ByteArray.size_append, sizeB, hm4]; omega) ?_)
    refine Ev.bind (numE p 4 (by omega) (by omega) (by decide) (by decide)) (ev_pos (by simp only [ByteArray.size_append, sizeB, hm4]; omega) ?_)
    rw [hcat]
    refine Ev.bind (sumE L (by omega)) ?_
    rw [hw]
    refine Ev.bind (numE _ 4 (by omega) (by omega) (by decide) (by decide)) (ev_pos (by simp only [sizeB]; omega) ?_)
    rw [appB]
    exact Ev.now _
  · rw [if_neg h]
    exact ev_neg h (Ev.now _)
theorem awakeH : splicerlaw29_awake.f = some true := by decide +kernel
theorem ba_list (s : ByteArray) (n : Nat) : s.extract 0 n = ⟨(s.data.toList.take n).toArray⟩ := by
  apply ByteArray.ext
  apply Array.toList_inj.1
  simp [ByteArray.data_extract, Array.toList_extract, List.extract_eq_take_drop]
theorem hg_text (x r : List UInt8) (n : Nat) (hx : x.length = n) : octet_Reader_Text.f ⟨(x ++ r).toArray⟩ 25 true n = some (⟨x.toArray⟩, ⟨r.toArray⟩, 25, true) := by
  unfold octet_Reader_Text.f octet_Reader_Bad.f
  have e1 : (⟨(x ++ r).toArray⟩ : ByteArray).extract 0 n = ⟨x.toArray⟩ := by apply ByteArray.ext; simp [← hx]
  have e2 : (⟨(x ++ r).toArray⟩ : ByteArray).extract n (⟨(x ++ r).toArray⟩ : ByteArray).size = ⟨r.toArray⟩ := by
    rw [sizeB]; apply ByteArray.ext; simp [← hx]
  have hs := sizeB (x ++ r)
  rw [List.length_append, hx] at hs
  simp only [Option.bind_some]
  rw [if_neg (by decide), if_neg (by omega), if_neg (by rw [hs]; omega), if_pos (by omega), if_pos (by rw [hs]; omega), Int.toNat_natCast, e1, e2]
theorem hg_num (x r : List UInt8) (n : Nat) (hx : x.length = n) (h1 : 1 ≤ n) (h7 : n ≤ 7) : octet_Reader_Num.f ⟨(x ++ r).toArray⟩ 25 true n = some (((beVal x : Nat) : Int), ⟨r.toArray⟩, 25, true) := by
  unfold octet_Reader_Num.f
  rw [if_neg (by omega), hg_text x r n hx]
  simp only [Option.bind_some]
theorem hg_split (L : List UInt8) (m n o : Nat) (ho : o + n ≤ m) : (L.take m).drop o = (L.drop o).take n ++ (L.take m).drop (o + n) := by
  rw [List.drop_take, List.drop_take, ← List.drop_drop]
  have := List.take_append_drop n ((L.drop o).take (m - o))
  rw [List.take_take, List.drop_take, show min n (m - o) = n by omega, show m - o - n = m - (o + n) by omega] at this
  exact this.symm
theorem hg_at (L : List UInt8) (n o : Nat) (ho : o + n ≤ 25) (hn : 25 ≤ L.length) (h1 : 1 ≤ n) (h7 : n ≤ 7) : octet_Reader_Num.f ⟨((L.take 25).drop o).toArray⟩ 25 true n = some (beAt L o n, ⟨((L.take 25).drop (o + n)).toArray⟩, 25, true) := by
  rw [hg_split L 25 n o ho]
  exact hg_num _ _ n (by rw [List.length_take, List.length_drop]; omega) h1 h7
theorem gall_eq (L : List UInt8) (hn : 25 ≤ L.length) : gall ⟨((L.take 25).drop 4).toArray⟩ true (List.finRange 7) = (⟨((L.take 25).drop 21).toArray⟩, true, hval L) := by
  have e0 := gstep_eq (⟨((L.take 25).drop 4).toArray⟩, true, fun _ => 0) 0 (hg_at L 1 4 (by omega) hn (by omega) (by omega))
  have e1 := fun f => gstep_eq (⟨((L.take 25).drop 5).toArray⟩, true, f) 1 (hg_at L 1 5 (by omega) hn (by omega) (by omega))
  have e2 := fun f => gstep_eq (⟨((L.take 25).drop 6).toArray⟩, true, f) 2 (hg_at L 3 6 (by omega) hn (by omega) (by omega))
  have e3 := fun f => gstep_eq (⟨((L.take 25).drop 9).toArray⟩, true, f) 3 (hg_at L 2 9 (by omega) hn (by omega) (by omega))
  have e4 := fun f => gstep_eq (⟨((L.take 25).drop 11).toArray⟩, true, f) 4 (hg_at L 2 11 (by omega) hn (by omega) (by omega))
  have e5 := fun f => gstep_eq (⟨((L.take 25).drop 13).toArray⟩, true, f) 5 (hg_at L 4 13 (by omega) hn (by omega) (by omega))
  have e6 := fun f => gstep_eq (⟨((L.take 25).drop 17).toArray⟩, true, f) 6 (hg_at L 4 17 (by omega) hn (by omega) (by omega))
  show gstep (gstep (gstep (gstep (gstep (gstep (gstep (⟨((L.take 25).drop 4).toArray⟩, true, fun _ => 0) 0) 1) 2) 3) 4) 5) 6 = _
  rw [e0]
  simp only [Nat.reduceAdd]
  rw [e1]
  simp only [Nat.reduceAdd]
  rw [e2]
  simp only [Nat.reduceAdd]
  rw [e3]
  simp only [Nat.reduceAdd]
  rw [e4]
  simp only [Nat.reduceAdd]
  rw [e5]
  simp only [Nat.reduceAdd]
  rw [e6]
  simp only [Nat.reduceAdd]
  refine Prod.ext rfl (Prod.ext rfl (funext fun j => ?_))
  match j with
  | 0 => rfl
  | 1 => rfl
  | 2 => rfl
  | 3 => rfl
  | 4 => rfl
  | 5 => rfl
  | 6 => rfl
def sumOk (L : List UInt8) : Prop := beAt L 21 4 = ((CrcLem.sumN 0 (L.take 21) : Nat) : Int)
theorem tail_iff (s : ByteArray) (hs : 25 ≤ s.size) : (s.extract 21 25).toList = (⟨(numL ((CrcLem.sumN 0 (s.data.toList.take 21) : Nat) : Int) 4).toArray⟩ : ByteArray).toList ↔ sumOk s.data.toList := by
  have hsum := CrcLem.sumN_lt 0 (s.data.toList.take 21) (by decide)
  unfold sumOk
  generalize CrcLem.sumN 0 (s.data.toList.take 21) = q at *
  have hq0 : (0 : Int) ≤ (q : Int) := Int.natCast_nonneg q
  have hq1 : (q : Int) < ((256 ^ 4 : Nat) : Int) := by rw [show (256 : Nat) ^ 4 = 4294967296 from rfl]; omega
  have e : (s.extract 21 25).toList = (s.data.toList.drop 21).take 4 := by
    rw [ByteArray.toList_eq]
    simp only [ByteArray.data_extract, Array.toList_extract, List.extract_eq_take_drop]
  have hl : s.data.toList.length = s.size := Array.length_toList
  have e2 : (⟨(numL (q : Int) 4).toArray⟩ : ByteArray).toList = numL (q : Int) 4 := by rw [ByteArray.toList_eq]
  rw [e, e2]
  unfold beAt
  constructor
  · intro h; rw [h]; exact numk_val (q : Int) 4 (by decide) (by decide) hq0 hq1
  · intro h
    have := numk_val (q : Int) 4 (by decide) (by decide) hq0 hq1
    exact val_inj 4 _ _ (by rw [List.length_take, List.length_drop, hl]; omega) (numk_len (q : Int) 4 (by decide) (by decide) hq0 hq1) (by rw [← this] at h; exact_mod_cast h)
open Classical in
noncomputable def getA (s : ByteArray) : Head8 :=
  if (s.size : Int) < 25 then hnone 2 else if s.data.toList.take 4 = magicL then (if sumOk s.data.toList then
    (if rightB (hval s.data.toList 0) (hval s.data.toList 2) (hval s.data.toList 1) (hval s.data.toList 3) (hval s.data.toList 4) (hval s.data.toList 5) (hval s.data.toList 6) = true then hout (hval s.data.toList) 0 else hnone 4)
    else hnone 5) else hnone 4
theorem hget (s : ByteArray) (hs : s.size ≤ 1000) : header_Get.f CrcX.crcTab s = some (getA s) := by
  unfold header_Get.f getA
  rw [if_pos ⟨rfl, by omega⟩]
  by_cases c1 : (s.size : Int) < 25
  · rw [if_pos c1, if_pos c1]
  · have hl : s.data.toList.length = s.size := Array.length_toList
    have e25 : s.extract 0 25 = ⟨((s.data.toList.take 25).drop 0).toArray⟩ := by rw [List.drop_zero]; exact ba_list s 25
    have hT := hg_text ((s.data.toList.drop 0).take 4) ((s.data.toList.take 25).drop (0 + 4)) 4 (by rw [List.length_take, List.length_drop]; omega)
    rw [← hg_split s.data.toList 25 4 0 (by omega), ← e25] at hT
    have e21 : (s.extract 0 21).data.toList = s.data.toList.take 21 := by rw [ba_list]
    rw [if_neg c1, if_neg c1, show (4 : Int) = ((4 : Nat) : Int) from rfl, hT]
    simp only [Option.bind_some, Nat.zero_add]
    rw [gall_eq s.data.toList (by omega), ByteArray.toList_eq, List.drop_zero, e21]
    have hY := hg_at s.data.toList 4 21 (by omega) (by omega) (by omega) (by omega)
    by_cases c2 : s.data.toList.take 4 = magicL
    · rw [if_pos (show _ = ([83, 80, 76, 49] : List UInt8) from c2), if_pos c2, hY]
      simp only [Option.bind_some]
      by_cases c3 : sumOk s.data.toList
      · rw [if_pos c3, if_pos (show beAt s.data.toList 21 4 = _ from c3), hright, Option.bind_some]
        split <;> rfl
      · rw [if_neg c3, if_neg (show ¬ beAt s.data.toList 21 4 = _ from c3)]
    · rw [if_neg (show ¬ _ = ([83, 80, 76, 49] : List UInt8) from c2), if_neg c2]
theorem rgetE (s : ByteArray) (hs : s.size ≤ 1000) : Ev (fun k => splicerref29_Get.f k s) (getA s) := by
  unfold splicerref29_Get.f getA
  refine ev_pos (by omega) ?_
  by_cases c1 : (s.size : Int) < 25
  · rw [if_pos c1]; exact ev_pos c1 (Ev.now _)
  · have hl : s.data.toList.length = s.size := Array.length_toList
    have e4 : (s.extract 0 4).toList = s.data.toList.take 4 := by rw [ba_list, ByteArray.toList_eq]
    have e21 : s.extract 0 21 = ⟨(s.data.toList.take 21).toArray⟩ := ba_list s 21
    have hsum := CrcLem.sumN_lt 0 (s.data.toList.take 21) (by decide)
    have hw : wrap64 ((CrcLem.sumN 0 (s.data.toList.take 21) : Nat) : Int) = ((CrcLem.sumN 0 (s.data.toList.take 21) : Nat) : Int) := by unfold wrap64; omega
    rw [if_neg c1]
    refine ev_neg c1 ?_
    by_cases c2 : s.data.toList.take 4 = magicL
    · rw [if_pos c2]
      refine ev_pos (show _ = ([83, 80, 76, 49] : List UInt8) by rw [e4]; exact c2) ?_
      rw [e21]
      refine Ev.bind (sumE _ (by rw [List.length_take]; omega)) ?_
      rw [hw]
      refine Ev.bind (numE _ 4 (by omega) (by omega) (by decide) (by decide)) ?_
      by_cases c3 : sumOk s.data.toList
      · rw [if_pos c3]
        refine ev_pos ((tail_iff s (by omega)).2 c3) ?_
        rw [rright, Option.bind_some]
        by_cases c4 : rightB (hval s.data.toList 0) (hval s.data.toList 2) (hval s.data.toList 1) (hval s.data.toList 3) (hval s.data.toList 4) (hval s.data.toList 5) (hval s.data.toList 6) = true
        · rw [if_pos c4, if_pos c4]; exact Ev.now _
        · rw [if_neg c4, if_neg c4]; exact Ev.now _
      · rw [if_neg c3]
        exact ev_neg (fun h => c3 ((tail_iff s (by omega)).1 h)) (Ev.now _)
    · rw [if_neg c2]
      exact ev_neg (fun h => c2 (by rw [← e4]; exact h)) (Ev.now _)
end Go.Proofs.Ythdlikiakegekaa.HdrLem
