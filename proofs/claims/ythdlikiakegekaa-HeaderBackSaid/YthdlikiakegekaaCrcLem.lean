import Derived.Laws.BitsLemmas
/-! The sum of octets as whole numbers: no Go, no memory. -/
namespace Go.Proofs.Ythdlikiakegekaa.CrcLem

def stepN (n : Nat) : Nat := if n % 2 = 1 then n / 2 ^^^ 3988292384 else n / 2
def steps : Nat → Nat → Nat
  | 0, n => n
  | k + 1, n => steps k (stepN n)
def entryN (b : Nat) : Nat := steps 8 b

theorem xor_cancel (a p : Nat) : (a ^^^ p) ^^^ p = a := by rw [Nat.xor_assoc, Nat.xor_self, Nat.xor_zero]
theorem stepN_xor (a b : Nat) : stepN (a ^^^ b) = stepN a ^^^ stepN b := by
  unfold stepN
  rw [Nat.xor_div_two]
  by_cases ha : a % 2 = 1 <;> by_cases hb : b % 2 = 1
  · rw [if_neg (by rw [Nat.xor_mod_two_eq_one]; simp [ha, hb]), if_pos ha, if_pos hb]
    rw [Nat.xor_assoc (a / 2), ← Nat.xor_assoc 3988292384 (b / 2), Nat.xor_comm 3988292384 (b / 2), xor_cancel]
  · rw [if_pos (by rw [Nat.xor_mod_two_eq_one]; simp [ha, hb]), if_pos ha, if_neg hb, Nat.xor_assoc, Nat.xor_assoc, Nat.xor_comm (b / 2)]
  · rw [if_pos (by rw [Nat.xor_mod_two_eq_one]; simp [ha, hb]), if_neg ha, if_pos hb, Nat.xor_assoc]
  · rw [if_neg (by rw [Nat.xor_mod_two_eq_one]; simp [ha, hb]), if_neg ha, if_neg hb]
theorem steps_xor (k : Nat) : ∀ a b, steps k (a ^^^ b) = steps k a ^^^ steps k b := by
  induction k with
  | zero => intro a b; rfl
  | succ k ih => intro a b; show steps k (stepN (a ^^^ b)) = _; rw [stepN_xor, ih]; rfl
theorem steps_add (j : Nat) : ∀ k n, steps (j + k) n = steps k (steps j n) := by
  induction j with
  | zero => intro k n; rw [Nat.zero_add]; rfl
  | succ j ih => intro k n; rw [show j + 1 + k = (j + k) + 1 by omega]; exact ih k (stepN n)
theorem steps_mul (k : Nat) : ∀ m, steps k (2 ^ k * m) = m := by
  induction k with
  | zero => intro m; show 2 ^ 0 * m = m; omega
  | succ k ih =>
    intro m
    show steps k (stepN (2 ^ (k + 1) * m)) = m
    have e : 2 ^ (k + 1) * m = 2 * (2 ^ k * m) := by rw [Nat.pow_succ, Nat.mul_comm _ 2, Nat.mul_assoc]
    have : stepN (2 ^ (k + 1) * m) = 2 ^ k * m := by
      unfold stepN; rw [e, if_neg (by omega)]; omega
    rw [this, ih]
theorem xor_low (c m : Nat) (h : c < 256) : c ^^^ 256 * m = c + 256 * m := by
  have := Nat.two_pow_add_eq_or_of_lt (i := 8) h m
  have e : (256 : Nat) = 2 ^ 8 := rfl
  rw [Nat.xor_comm, Nat.add_comm, e]
  apply Nat.eq_of_testBit_eq
  intro i
  rw [Nat.testBit_xor, Nat.testBit_two_pow_mul_add _ h]
  by_cases hi : i < 8
  · rw [if_pos hi, Nat.testBit_two_pow_mul]; simp [Nat.not_le.2 hi]
  · rw [if_neg hi, Nat.testBit_two_pow_mul]
    have : c.testBit i = false := Nat.testBit_lt_two_pow (Nat.lt_of_lt_of_le h (Nat.pow_le_pow_right (show 2 > 0 by decide) (show 8 ≤ i by omega)))
    simp [this, Nat.not_lt.1 hi]
theorem split_low (n : Nat) : n = (n % 256) ^^^ 256 * (n / 256) := by
  rw [xor_low _ _ (Nat.mod_lt n (show 256 > 0 by decide))]; omega
theorem steps_byte (n c : Nat) : steps 8 (n ^^^ c) = n / 256 ^^^ entryN (n % 256 ^^^ c) := by
  have : n ^^^ c = (n % 256 ^^^ c) ^^^ 256 * (n / 256) := by
    conv => lhs; rw [split_low n]
    rw [Nat.xor_assoc, Nat.xor_comm _ c, ← Nat.xor_assoc]
  rw [this, steps_xor, show 256 * (n / 256) = 2 ^ 8 * (n / 256) from rfl, steps_mul, Nat.xor_comm]; rfl
theorem stepN_lt (n : Nat) (h : n < 4294967296) : stepN n < 4294967296 := by
  unfold stepN; split
  · exact Nat.xor_lt_two_pow (n := 32) (by omega) (by omega)
  · omega
theorem steps_lt (k : Nat) : ∀ n, n < 4294967296 → steps k n < 4294967296 := by
  induction k with
  | zero => intro n h; exact h
  | succ k ih => intro n h; exact ih _ (stepN_lt n h)
theorem stepN_zero (n : Nat) (h : n < 4294967296) (h0 : stepN n = 0) : n = 0 := by
  unfold stepN at h0
  split at h0
  · have : n / 2 = 3988292384 := by
      have h1 := xor_cancel (n / 2) 3988292384
      rw [h0, Nat.zero_xor] at h1; exact h1.symm
    omega
  · omega
theorem steps_zero (k : Nat) : ∀ n, n < 4294967296 → steps k n = 0 → n = 0 := by
  induction k with
  | zero => intro n _ h; exact h
  | succ k ih => intro n h h0; exact stepN_zero n h (ih _ (stepN_lt n h) h0)

/-- The inner number behind some octets. -/
def reg (n : Nat) (l : List UInt8) : Nat := l.foldl (fun n c => steps 8 (n ^^^ c.toNat)) n
theorem reg_nil (n : Nat) : reg n [] = n := rfl
theorem reg_cons (n : Nat) (c : UInt8) (l : List UInt8) : reg n (c :: l) = reg (steps 8 (n ^^^ c.toNat)) l := rfl
theorem reg_append (n : Nat) (a b : List UInt8) : reg n (a ++ b) = reg (reg n a) b := List.foldl_append
theorem reg_snoc (n : Nat) (a : List UInt8) (c : UInt8) : reg n (a ++ [c]) = steps 8 (reg n a ^^^ c.toNat) := by rw [reg_append]; rfl
theorem byte_lt (c : UInt8) : c.toNat < 256 := c.toNat_lt
theorem xor32 {a b : Nat} (ha : a < 4294967296) (hb : b < 4294967296) : a ^^^ b < 4294967296 := Nat.xor_lt_two_pow (n := 32) ha hb
theorem reg_lt (l : List UInt8) : ∀ n, n < 4294967296 → reg n l < 4294967296 := by
  induction l with
  | nil => intro n h; exact h
  | cons c l ih => intro n h; exact ih _ (steps_lt 8 _ (xor32 h (by have := byte_lt c; omega)))
/-- The sum of octets behind another sum. -/
def sumN (sum : Nat) (l : List UInt8) : Nat := 4294967295 ^^^ reg (4294967295 ^^^ sum) l
theorem sumN_lt (sum : Nat) (l : List UInt8) (h : sum < 4294967296) : sumN sum l < 4294967296 := xor32 (by decide) (reg_lt l _ (xor32 (by decide) h))
theorem not_not (a : Nat) : 4294967295 ^^^ (4294967295 ^^^ a) = a := by rw [← Nat.xor_assoc, Nat.xor_self, Nat.zero_xor]
theorem sumN_nil (sum : Nat) : sumN sum [] = sum := not_not sum
theorem sumN_parts (sum : Nat) (a b : List UInt8) : sumN (sumN sum a) b = sumN sum (a ++ b) := by
  unfold sumN; rw [not_not, reg_append]

/-- Octets as one number, the lowest first. -/
def num : List UInt8 → Nat
  | [] => 0
  | c :: l => c.toNat + 256 * num l
theorem reg_num (l : List UInt8) : ∀ n, reg n l = steps (8 * l.length) (n ^^^ num l) := by
  induction l with
  | nil => intro n; simp [reg, num, steps]
  | cons c l ih =>
    intro n
    rw [reg_cons, ih, List.length_cons, show 8 * (l.length + 1) = 8 + 8 * l.length by omega, steps_add]
    congr 1
    show _ = steps 8 (n ^^^ (c.toNat + 256 * num l))
    rw [← xor_low _ _ (byte_lt c), ← Nat.xor_assoc, steps_xor 8 (n ^^^ c.toNat), show 256 * num l = 2 ^ 8 * num l from rfl, steps_mul]
theorem num_lt (l : List UInt8) : num l < 2 ^ (8 * l.length) := by
  induction l with
  | nil => decide
  | cons c l ih =>
    have := byte_lt c
    rw [List.length_cons, show 8 * (l.length + 1) = 8 + 8 * l.length by omega, Nat.pow_add]
    show c.toNat + 256 * num l < 256 * 2 ^ (8 * l.length)
    omega
theorem num_inj (a : List UInt8) : ∀ b, a.length = b.length → num a = num b → a = b := by
  induction a with
  | nil => intro b h _; cases b with
    | nil => rfl
    | cons _ _ => simp at h
  | cons c a ih => intro b h he; cases b with
    | nil => simp at h
    | cons d b =>
      have h1 := byte_lt c
      have h2 := byte_lt d
      have e : c.toNat + 256 * num a = d.toNat + 256 * num b := he
      have e1 : c.toNat = d.toNat := by omega
      have e2 : num a = num b := by omega
      rw [ih b (by simpa using h) e2, UInt8.toNat_inj.1 e1]
/-- Two texts of one length that differ in some bits, all within 32 neighbouring ones, have other sums. -/
theorem burst (a b : List UInt8) (h : a.length = b.length) (first d : Nat) (hf : first ≤ 8 * a.length) (hd : d < 4294967296) (e : num a = num b ^^^ 2 ^ first * d) (sum : Nat) :
    sumN sum a = sumN sum b ↔ d = 0 := by
  unfold sumN
  rw [reg_num, reg_num, e, ← h]
  constructor
  · intro hh
    have h1 : steps (8 * a.length) ((4294967295 ^^^ sum) ^^^ (num b ^^^ 2 ^ first * d)) = steps (8 * a.length) ((4294967295 ^^^ sum) ^^^ num b) := by
      have := congrArg (4294967295 ^^^ ·) hh
      simpa only [not_not] using this
    rw [← Nat.xor_assoc, steps_xor] at h1
    have h2 : steps (8 * a.length) (2 ^ first * d) = 0 := by
      have h3 := congrArg (steps (8 * a.length) ((4294967295 ^^^ sum) ^^^ num b) ^^^ ·) h1
      simpa only [← Nat.xor_assoc, Nat.xor_self, Nat.zero_xor] using h3
    rw [show 8 * a.length = first + (8 * a.length - first) by omega, steps_add, steps_mul] at h2
    exact steps_zero _ d hd h2
  · rintro rfl; simp

/-! Bits that are turned. -/
theorem two_mul_xor (f a b : Nat) : 2 ^ f * (a ^^^ b) = 2 ^ f * a ^^^ 2 ^ f * b := by
  apply Nat.eq_of_testBit_eq
  intro i
  rw [Nat.testBit_xor, Nat.testBit_two_pow_mul, Nat.testBit_two_pow_mul, Nat.testBit_two_pow_mul, Nat.testBit_xor]
  by_cases h : f ≤ i <;> simp [h]
theorem low_bit (x k : Nat) (h : x < 2 ^ k) : x + 2 ^ k = x ^^^ 2 ^ k := by
  apply Nat.eq_of_testBit_eq
  intro i
  have e : x + 2 ^ k = 2 ^ k * 1 + x := by omega
  rw [e, Nat.testBit_two_pow_mul_add _ h, Nat.testBit_xor, Nat.testBit_two_pow]
  by_cases hi : i < k
  · rw [if_pos hi]; simp [show k ≠ i by omega]
  · rw [if_neg hi]
    have hx : x.testBit i = false := Nat.testBit_lt_two_pow (Nat.lt_of_lt_of_le h (Nat.pow_le_pow_right (show 2 > 0 by decide) (by omega)))
    rw [hx]
    by_cases hk : k = i
    · subst hk; simp
    · have : i - k ≠ 0 := by omega
      obtain ⟨m, hm⟩ : ∃ m, i - k = m + 1 := ⟨i - k - 1, by omega⟩
      rw [hm]; simp [hk, Nat.testBit_succ]
theorem num_set (l : List UInt8) : ∀ (i j : Nat) (hi : i < l.length) (c : UInt8), c.toNat = l[i].toNat ^^^ 2 ^ j → num (l.set i c) = num l ^^^ 2 ^ (8 * i + j) := by
  induction l with
  | nil => intro i j hi; simp at hi
  | cons d l ih =>
    intro i j hi c hc
    have hd := byte_lt d
    cases i with
    | zero =>
      have hc' : c.toNat = d.toNat ^^^ 2 ^ j := hc
      show c.toNat + 256 * num l = (d.toNat + 256 * num l) ^^^ 2 ^ (8 * 0 + j)
      rw [← xor_low _ _ (byte_lt c), ← xor_low _ _ hd, hc', Nat.mul_zero, Nat.zero_add, Nat.xor_assoc, Nat.xor_assoc, Nat.xor_comm (2 ^ j)]
    | succ i =>
      show d.toNat + 256 * num (l.set i c) = (d.toNat + 256 * num l) ^^^ 2 ^ (8 * (i + 1) + j)
      have e : 2 ^ (8 * (i + 1) + j) = 2 ^ 8 * 2 ^ (8 * i + j) := by rw [← Nat.pow_add]; congr 1; omega
      rw [ih i j (by simpa using hi) c hc, ← xor_low _ _ hd, ← xor_low _ _ hd, show (256 : Nat) = 2 ^ 8 from rfl, two_mul_xor, e, Nat.xor_assoc]
/-- One bit more. -/
theorem mod_bit (x k : Nat) : x % 2 ^ (k + 1) = if x / 2 ^ k % 2 = 1 then x % 2 ^ k + 2 ^ k else x % 2 ^ k := by
  have := Nat.mod_pow_succ (x := x) (b := 2) (k := k)
  rw [this]
  rcases Nat.mod_two_eq_zero_or_one (x / 2 ^ k) with h | h
  · rw [h, if_neg (by decide)]; omega
  · rw [h, if_pos rfl]; omega

end Go.Proofs.Ythdlikiakegekaa.CrcLem
