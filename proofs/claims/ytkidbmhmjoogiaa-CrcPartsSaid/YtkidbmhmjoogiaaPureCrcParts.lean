/- CrcParts: however up to 600 octets are parted, the sum is one, a sum with nothing behind stays, and a table that nobody made tells 0; no condition beyond the statement's own guards. -/
import Derived.Test.YtkidbmhmjoogiaaSx2
namespace Go.Proofs.Ytkidbmhmjoogiaa.Pure
open Go.RowKit Go.Proofs.Ytkidbmhmjoogiaa.S Go.Proofs.YtkidbmhmjoogiaaW.PrintWords Go.Proofs.YtkidbmhmjoogiaaW.PrintLast Go.Proofs.Ytkidbmhmjoogiaa.CrcLem

theorem parts_of (s : ByteArray) (k : Nat) : (s.extract 0 k).data.toList ++ (s.extract k s.size).data.toList = s.data.toList := by
  rw [ByteArray.data_extract, ByteArray.data_extract]
  simp only [Array.toList_extract, List.extract_eq_take_drop, List.drop_zero, Nat.sub_zero]
  have : s.size = s.data.toList.length := by rw [Array.length_toList]; rfl
  rw [this, List.take_of_length_le (l := s.data.toList.drop k) (by simp)]
  exact List.take_append_drop k _

theorem sumE (s : ByteArray) (h : s.size ≤ 140737488351232) : crc_Table_Sum.f CrcX.crcTab s = some ((sumN 0 s.data.toList : Nat) : Int) := by
  unfold crc_Table_Sum.f; rw [if_pos rfl, if_pos h]
theorem moreE (s : ByteArray) (n : Nat) (hn : n < 4294967296) (h : s.size ≤ 140737488351232) : crc_Table_More.f CrcX.crcTab n s = some ((sumN n s.data.toList : Nat) : Int) := by
  unfold crc_Table_More.f; rw [if_pos rfl, if_pos ⟨by omega, by omega, h⟩, Int.toNat_natCast]

theorem CrcParts : splicerlaw03_CrcParts.Pure := by
  intro s a c hs ha hc
  have a1 := bounds_u16 ha
  have c1 := bounds_u32 hc
  unfold splicerlaw03_CrcParts.f splicerlaw03_awake.f crc_Make.f
  by_cases h : (s.size : Int) > 600
  · rw [if_pos h]; rfl
  rw [if_neg h]
  obtain ⟨n, rfl⟩ := Int.eq_ofNat_of_zero_le a1.1
  obtain ⟨c, rfl⟩ := Int.eq_ofNat_of_zero_le c1.1
  have e1 : wrap64 ((s.size : Int) + 1) = ((s.size + 1 : Nat) : Int) := by unfold wrap64; omega
  have e2 : wrap64 ((n : Nat) : Int) = ((n : Nat) : Int) := by unfold wrap64; omega
  rw [e1, e2, if_neg (show ¬ ((s.size + 1 : Nat) : Int) = 0 by omega)]
  obtain ⟨k, hk, e3⟩ : ∃ k : Nat, k ≤ s.size ∧ ((n : Nat) : Int).tmod ((s.size + 1 : Nat) : Int) = (k : Int) := by
    refine ⟨n % (s.size + 1), Nat.le_of_lt_succ (Nat.mod_lt _ (by omega)), ?_⟩
    rw [Int.tmod_eq_emod_of_nonneg (by omega), ← Int.natCast_emod]
  rw [e3]
  simp only [Option.bind_some, if_pos (show (0 : Int) ≤ (k : Int) by omega), if_pos (show (k : Int) ≤ (s.size : Int) by omega), Int.toNat_natCast]
  have sz1 : (s.extract 0 k).size ≤ 140737488351232 := by
    have : (s.extract 0 k).size ≤ s.size := by simp [ByteArray.size_extract]; omega
    omega
  have sz2 : (s.extract k s.size).size ≤ 140737488351232 := by
    have : (s.extract k s.size).size ≤ s.size := by simp [ByteArray.size_extract]
    omega
  have x1 := sumN_lt 0 (s.extract 0 k).data.toList (by decide)
  obtain ⟨X, hX, eX⟩ : ∃ X : Nat, crc_Table_Sum.f CrcX.crcTab (s.extract 0 k) = some (X : Int) ∧ X = sumN 0 (s.extract 0 k).data.toList := ⟨_, sumE _ sz1, rfl⟩
  rw [← eX] at x1
  obtain ⟨Y, hY, eY⟩ : ∃ Y : Nat, crc_Table_More.f CrcX.crcTab (X : Int) (s.extract k s.size) = some (Y : Int) ∧ Y = sumN X (s.extract k s.size).data.toList := ⟨_, moreE _ _ x1 sz2, rfl⟩
  obtain ⟨Z, hZ, eZ⟩ : ∃ Z : Nat, crc_Table_Sum.f CrcX.crcTab s = some (Z : Int) ∧ Z = sumN 0 s.data.toList := ⟨_, sumE _ hs, rfl⟩
  obtain ⟨V, hV, eV⟩ : ∃ V : Nat, crc_Table_More.f CrcX.crcTab (c : Int) ⟨#[]⟩ = some (V : Int) ∧ V = sumN c [] := ⟨_, moreE ⟨#[]⟩ c (by omega) (Nat.zero_le _), rfl⟩
  have hYZ : Y = Z := by rw [eY, eX, sumN_parts, parts_of, eZ]
  have hVc : V = c := by rw [eV, sumN_nil]
  clear eX eY eZ eV x1
  subst hYZ hVc
  rw [hX, Option.bind_some, hY, Option.bind_some, hZ, Option.bind_some, if_pos rfl, hV, Option.bind_some, if_pos rfl]
  rfl

end Go.Proofs.Ytkidbmhmjoogiaa.Pure
