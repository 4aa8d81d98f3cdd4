/- HeaderBack: a header comes back from its octets, whatever stands behind them; one of whose first 21 octets, or last four, some bits, all within 32 neighbouring ones, are turned, is refused; any header that is right, up to 100 bytes, any place, any bits. -/
import Derived.Test.YthdlikiakegekaaHdrBack
import Derived.Test.YthdlikiakegekaaHdrLem
set_option linter.unusedVariables false
namespace Go.Proofs.Ythdlikiakegekaa.Pure
open Go.RowKit Go.Proofs.Ythdlikiakegekaa.S Go.Proofs.YthdlikiakegekaaW.PrintWords Go.Proofs.YthdlikiakegekaaW.PrintLast Go.Proofs.YthdlikiakegekaaW.PrintMore
open HdrLem HdrW OctW CrcLem

theorem be_at (A R : List UInt8) (n : Int) (k o : Nat) (hA : A.length = o) (hk1 : 1 ≤ k) (hk7 : k ≤ 7) (h0 : 0 ≤ n) (h1 : n < ((256 ^ k : Nat) : Int)) : beAt (A ++ (numL n k ++ R)) o k = n := by
  have hl := numk_len n k hk1 hk7 h0 h1
  unfold beAt
  rw [← hA, List.drop_left, List.take_append_of_le_length (by omega), List.take_of_length_le (by omega), numk_val n k hk1 hk7 h0 h1]
theorem num_app (a b : List UInt8) : num (a ++ b) = num a + 2 ^ (8 * a.length) * num b := by
  induction a with
  | nil => simp [num]
  | cons c a ih =>
    show num (c :: (a ++ b)) = num (c :: a) + _
    have e1 : ∀ l, num (c :: l) = c.toNat + 256 * num l := fun l => rfl
    rw [e1, e1, ih, List.length_cons, show 8 * (a.length + 1) = 8 + 8 * a.length by omega, Nat.pow_add, show (2 : Nat) ^ 8 = 256 from rfl, Nat.mul_add, Nat.mul_assoc, Nat.add_assoc]
theorem num_parts (a b : List UInt8) (n : Nat) (h : 8 * a.length = n) : num (a ++ b) % 2 ^ n = num a ∧ num (a ++ b) / 2 ^ n = num b := by
  have hl := num_lt a
  rw [num_app, h]
  rw [h] at hl
  have hp : 0 < 2 ^ n := Nat.two_pow_pos n
  exact ⟨by rw [Nat.add_mul_mod_self_left, Nat.mod_eq_of_lt hl], by rw [Nat.add_mul_div_left _ _ hp, Nat.div_eq_of_lt hl, Nat.zero_add]⟩
/-- What stands in a header that is right. -/
structure Fit (P1 P2 : List UInt8) : Prop where
  l1 : P1.length = 21
  l2 : P2.length = 4
  ok : beVal P2 = sumN 0 P1
theorem sum_of (P1 P2 M : List UInt8) (h1 : P1.length = 21) (h2 : P2.length = 4) : sumOk (P1 ++ P2 ++ M) ↔ beVal P2 = sumN 0 P1 := by
  unfold sumOk beAt
  rw [List.append_assoc, ← h1, List.drop_left, List.take_left, List.take_append_of_le_length (by omega), List.take_of_length_le (by omega)]
  omega
theorem turned (P1 P2 l : List UInt8) (h : Fit P1 P2) (F k D : Nat) (hl : l.length = 25) (hD : D < 2 ^ k) (hD32 : D < 4294967296) (hF : F + k ≤ 168 ∨ 168 ≤ F) (e : num l = num (P1 ++ P2) ^^^ 2 ^ F * D) (M : List UInt8) (hs : sumOk (l ++ M)) : D = 0 := by
  obtain ⟨l1, l2, rfl, h1, h2⟩ : ∃ l1 l2, l = l1 ++ l2 ∧ l1.length = 21 ∧ l2.length = 4 := ⟨l.take 21, l.drop 21, (List.take_append_drop 21 l).symm, by rw [List.length_take]; omega, by rw [List.length_drop]; omega⟩
  have hok := (sum_of l1 l2 M h1 h2).1 hs
  obtain ⟨pm, pd⟩ := num_parts P1 P2 168 (by rw [h.l1])
  obtain ⟨qm, qd⟩ := num_parts l1 l2 168 (by rw [h1])
  have em : num (l1 ++ l2) % 2 ^ 168 = (num (P1 ++ P2) ^^^ 2 ^ F * D) % 2 ^ 168 := congrArg (· % 2 ^ 168) e
  have ed : num (l1 ++ l2) / 2 ^ 168 = (num (P1 ++ P2) ^^^ 2 ^ F * D) / 2 ^ 168 := congrArg (· / 2 ^ 168) e
  rw [qm, Nat.xor_mod_two_pow, pm] at em
  rw [qd, Nat.xor_div_two_pow, pd] at ed
  rcases hF with hF | hF
  · have hX : 2 ^ F * D < 2 ^ 168 := by
      refine Nat.lt_of_lt_of_le (Nat.mul_lt_mul_of_pos_left hD (Nat.two_pow_pos F)) ?_
      rw [← Nat.pow_add]
      exact Nat.pow_le_pow_right (by decide) hF
    rw [Nat.mod_eq_of_lt hX] at em
    rw [Nat.div_eq_of_lt hX, Nat.xor_zero] at ed
    have h22 := num_inj l2 P2 (by rw [h2, h.l2]) ed
    subst h22
    have hb := burst l1 P1 (by rw [h1, h.l1]) F D (by rw [h1]; omega) hD32 em 0
    exact hb.1 (by rw [← hok, h.ok])
  · obtain ⟨G, rfl⟩ : ∃ G, F = 168 + G := ⟨F - 168, by omega⟩
    have hX : 2 ^ (168 + G) * D % 2 ^ 168 = 0 := by rw [Nat.pow_add, Nat.mul_assoc, Nat.mul_mod_right]
    rw [hX, Nat.xor_zero] at em
    have h11 := num_inj l1 P1 (by rw [h1, h.l1]) em
    subst h11
    have h22 := val_inj 4 l2 P2 h2 h.l2 (by rw [hok, h.ok])
    subst h22
    have hd2 : 2 ^ (168 + G) * D / 2 ^ 168 = 2 ^ G * D := by rw [Nat.pow_add, Nat.mul_assoc, Nat.mul_div_cancel_left _ (Nat.two_pow_pos 168)]
    rw [hd2] at ed
    have h0 : 2 ^ G * D = 0 := by
      have := congrArg (num l2 ^^^ ·) ed
      simp only [Nat.xor_self, ← Nat.xor_assoc, Nat.zero_xor] at this
      exact this.symm
    rcases Nat.mul_eq_zero.1 h0 with h0 | h0
    · exact absurd h0 (Nat.ne_of_gt (Nat.two_pow_pos G))
    · exact h0

set_option maxRecDepth 100000 in
theorem HeaderBack : splicerlaw29_HeaderBack.Pure := by
  refine ⟨awakeH, fun a0 a1 a2 a3 a4 a5 p more => ⟨_, rright a0 a1 a2 a3 a4 a5 p, fun ht hm => ?_⟩⟩
  have hb := right_bd ht
  have hp := hput a0 a1 a2 a3 a4 a5 p
  unfold putA at hp
  rw [if_pos ht] at hp
  have hW := headW_eq a0 a1 a2 a3 a4 a5 p
  have q1 : ((256 ^ 1 : Nat) : Int) = 256 := rfl
  have q2 : ((256 ^ 2 : Nat) : Int) = 65536 := rfl
  have q3 : ((256 ^ 3 : Nat) : Int) = 16777216 := rfl
  have q4 : ((256 ^ 4 : Nat) : Int) = 4294967296 := rfl
  have l0 := numk_len a0 1 (by decide) (by decide) (by omega) (by omega)
  have l2 := numk_len a2 1 (by decide) (by decide) (by omega) (by omega)
  have l1 := numk_len a1 3 (by decide) (by decide) (by omega) (by omega)
  have l3 := numk_len a3 2 (by decide) (by decide) (by omega) (by omega)
  have l4 := numk_len a4 2 (by decide) (by decide) (by omega) (by omega)
  have l5 := numk_len a5 4 (by decide) (by decide) (by omega) (by omega)
  have l6 := numk_len p 4 (by decide) (by decide) (by omega) (by omega)
  have e0 := fun A R hA => be_at A R a0 1 4 hA (by decide) (by decide) (by omega) (by omega)
  have e2 := fun A R hA => be_at A R a2 1 5 hA (by decide) (by decide) (by omega) (by omega)
  have e1 := fun A R hA => be_at A R a1 3 6 hA (by decide) (by decide) (by omega) (by omega)
  have e3 := fun A R hA => be_at A R a3 2 9 hA (by decide) (by decide) (by omega) (by omega)
  have e4 := fun A R hA => be_at A R a4 2 11 hA (by decide) (by decide) (by omega) (by omega)
  have e5 := fun A R hA => be_at A R a5 4 13 hA (by decide) (by decide) (by omega) (by omega)
  have e6 := fun A R hA => be_at A R p 4 17 hA (by decide) (by decide) (by omega) (by omega)
  obtain ⟨P1, hP1⟩ : ∃ P1, P1 = headW (fval a0 a1 a2 a3 a4 a5 p) (List.finRange 7) := ⟨_, rfl⟩
  have hP : headP (fval a0 a1 a2 a3 a4 a5 p) = P1 ++ numL ((sumN 0 P1 : Nat) : Int) 4 := by rw [hP1]; rfl
  rw [← hP1] at hW
  simp only [Int.cast_ofNat_Int] at l0 l1 l2 l3 l4 l5 l6 e0 e1 e2 e3 e4 e5 e6
  generalize numL a0 1 = n0 at *
  generalize numL a2 1 = n2 at *
  generalize numL a1 3 = n1 at *
  generalize numL a3 2 = n3 at *
  generalize numL a4 2 = n4 at *
  generalize numL a5 4 = n5 at *
  generalize numL p 4 = n6 at *
  have hlm : magicL.length = 4 := rfl
  have hl1 : P1.length = 21 := by rw [hW]; simp only [List.length_append, l0, l1, l2, l3, l4, l5, l6, hlm, List.length_nil]
  have hsum := sumN_lt 0 P1 (by decide)
  have hl2 : (numL ((sumN 0 P1 : Nat) : Int) 4).length = 4 := numk_len _ 4 (by decide) (by decide) (by omega) (by rw [q4]; omega)
  have hv2 : beVal (numL ((sumN 0 P1 : Nat) : Int) 4) = sumN 0 P1 := by
    have := numk_val ((sumN 0 P1 : Nat) : Int) 4 (by decide) (by decide) (by omega) (by rw [q4]; omega)
    exact_mod_cast this
  rw [hP] at hp
  generalize numL ((sumN 0 P1 : Nat) : Int) 4 = P2 at *
  have hfit : Fit P1 P2 := ⟨hl1, hl2, hv2⟩
  have hvals : ∀ R, beAt (P1 ++ R) 4 1 = a0 ∧ beAt (P1 ++ R) 5 1 = a2 ∧ beAt (P1 ++ R) 6 3 = a1 ∧ beAt (P1 ++ R) 9 2 = a3 ∧ beAt (P1 ++ R) 11 2 = a4 ∧ beAt (P1 ++ R) 13 4 = a5 ∧ beAt (P1 ++ R) 17 4 = p := by
    intro R
    rw [hW]
    refine ⟨?_, ?_, ?_, ?_, ?_, ?_, ?_⟩
    · have := e0 magicL (n2 ++ (n1 ++ (n3 ++ (n4 ++ (n5 ++ (n6 ++ R)))))) rfl
      simpa only [List.append_assoc, List.append_nil, List.nil_append] using this
    · have := e2 (magicL ++ n0) (n1 ++ (n3 ++ (n4 ++ (n5 ++ (n6 ++ R))))) (by simp only [List.length_append, l0, hlm])
      simpa only [List.append_assoc, List.append_nil, List.nil_append] using this
    · have := e1 (magicL ++ (n0 ++ n2)) (n3 ++ (n4 ++ (n5 ++ (n6 ++ R)))) (by simp only [List.length_append, l0, l2, hlm])
      simpa only [List.append_assoc, List.append_nil, List.nil_append] using this
    · have := e3 (magicL ++ (n0 ++ (n2 ++ n1))) (n4 ++ (n5 ++ (n6 ++ R))) (by simp only [List.length_append, l0, l2, l1, hlm])
      simpa only [List.append_assoc, List.append_nil, List.nil_append] using this
    · have := e4 (magicL ++ (n0 ++ (n2 ++ (n1 ++ n3)))) (n5 ++ (n6 ++ R)) (by simp only [List.length_append, l0, l2, l1, l3, hlm])
      simpa only [List.append_assoc, List.append_nil, List.nil_append] using this
    · have := e5 (magicL ++ (n0 ++ (n2 ++ (n1 ++ (n3 ++ n4))))) (n6 ++ R) (by simp only [List.length_append, l0, l2, l1, l3, l4, hlm])
      simpa only [List.append_assoc, List.append_nil, List.nil_append] using this
    · have := e6 (magicL ++ (n0 ++ (n2 ++ (n1 ++ (n3 ++ (n4 ++ n5)))))) R (by simp only [List.length_append, l0, l2, l1, l3, l4, l5, hlm])
      simpa only [List.append_assoc, List.append_nil, List.nil_append] using this
  have hmg : ∀ R, (P1 ++ R).take 4 = magicL := by
    intro R
    rw [hW, List.append_assoc, ← hlm, List.take_left]
  clear e0 e1 e2 e3 e4 e5 e6
  have hgetP : header_Get.f CrcX.crcTab (⟨(P1 ++ P2).toArray⟩ ++ more) = some (a0, a1, a2, a3, a4, a5, p, 0) := by
    have hs : ((⟨(P1 ++ P2).toArray⟩ : ByteArray) ++ more).size = 25 + more.size := by rw [ByteArray.size_append, sizeB, List.length_append, hl1, hl2]
    have hd : ((⟨(P1 ++ P2).toArray⟩ : ByteArray) ++ more).data.toList = P1 ++ (P2 ++ more.data.toList) := by simp
    obtain ⟨v0, v2, v1, v3, v4, v5, v6⟩ := hvals (P2 ++ more.data.toList)
    rw [hget _ (by omega)]
    unfold getA
    rw [if_neg (by omega), hd, if_pos (hmg _), if_pos (by rw [← List.append_assoc]; exact (sum_of P1 P2 _ hl1 hl2).2 hv2)]
    have g0 : hval (P1 ++ (P2 ++ more.data.toList)) 0 = a0 := v0
    have g1 : hval (P1 ++ (P2 ++ more.data.toList)) 1 = a2 := v2
    have g2 : hval (P1 ++ (P2 ++ more.data.toList)) 2 = a1 := v1
    have g3 : hval (P1 ++ (P2 ++ more.data.toList)) 3 = a3 := v3
    have g4 : hval (P1 ++ (P2 ++ more.data.toList)) 4 = a4 := v4
    have g5 : hval (P1 ++ (P2 ++ more.data.toList)) 5 = a5 := v5
    have g6 : hval (P1 ++ (P2 ++ more.data.toList)) 6 = p := v6
    unfold hout
    rw [g0, g1, g2, g3, g4, g5, g6, if_pos ht]
  refine ⟨P1 ++ P2, by rw [List.length_append, hl1, hl2], hp, hgetP, fun bits l F k hl hn hF hbits => ?_⟩
  by_cases hD : bits % 2 ^ k = 0
  · rw [hD, Nat.mul_zero, Nat.xor_zero] at hn
    have := num_inj l (P1 ++ P2) (by rw [hl, List.length_append, hl1, hl2]) hn
    subst this
    exact ⟨_, _, _, _, _, _, _, _, hgetP, by rw [hD]; rfl⟩
  · have hnz : CrcTurnedR.nz (bits % 2 ^ k) = true := by simp [CrcTurnedR.nz, hD]
    rw [hnz]
    have hs : ((⟨l.toArray⟩ : ByteArray) ++ more).size = 25 + more.size := by rw [ByteArray.size_append, sizeB, hl]
    have hd : ((⟨l.toArray⟩ : ByteArray) ++ more).data.toList = l ++ more.data.toList := by simp
    have hno : ¬ sumOk (l ++ more.data.toList) := fun h => hD (turned P1 P2 l hfit F k _ hl (Nat.mod_lt _ (Nat.two_pow_pos k)) (Nat.lt_of_le_of_lt (Nat.mod_le _ _) hbits) (by omega) hn _ h)
    rw [hget _ (by omega)]
    unfold getA
    rw [if_neg (by omega), hd]
    by_cases hm4 : (l ++ more.data.toList).take 4 = magicL
    · rw [if_pos hm4, if_neg hno]; exact ⟨_, _, _, _, _, _, _, _, rfl, rfl⟩
    · rw [if_neg hm4]; exact ⟨_, _, _, _, _, _, _, _, rfl, rfl⟩

end Go.Proofs.Ythdlikiakegekaa.Pure
