import Derived.Test.YthdlikiakegekaaWMore
import Derived.Test.YthdlikiakegekaaProg
import Derived.Test.YthdlikiakegekaaCrcLem
import Derived.Outline
import Derived.WalkKit
import Derived.Deep.LoopGhost
import Derived.Deep.QuietTactic
import Derived.BigQuiet
import Derived.Laws.NewBlocks
import Derived.Lib.Hide
/-! The walks of crc: the table is made; sums are told by it. -/
namespace Go.Proofs.Ythdlikiakegekaa.CrcW
open Go.RowKit Go.Proofs.YthdlikiakegekaaW.PrintWords Go.Proofs.YthdlikiakegekaaW.PrintLast Go.Proofs.YthdlikiakegekaaW.PrintMore Go.Proofs.Ythdlikiakegekaa.CrcLem
def z256 : Array Value := Array.replicate 256 (.int .u32 0)
theorem zeroTab (w : World) : Sem.run Try.prog (zeroValue 87) w = .ok (.agg z256) w := by kernel_rfl
def upto (i : Nat) : Array Value := Array.ofFn (n := 256) fun j => .int .u32 ((if j.val < i then entryN j.val else 0 : Nat) : Int)
theorem upto_zero : z256 = upto 0 := by
  apply Array.ext
  · simp [z256, upto]
  · intro j h1 h2; simp [z256, upto]
theorem upto_size (i : Nat) : (upto i).size = 256 := by simp [upto]
theorem upto_get (i j : Nat) (h : j < 256) : (upto i)[j]? = some (.int .u32 ((if j < i then entryN j else 0 : Nat) : Int)) := by
  rw [Array.getElem?_eq_getElem (by rw [upto_size]; exact h)]; simp [upto]
theorem upto_set (i : Nat) (h : i < 256) : (upto i).setIfInBounds i (.int .u32 (entryN i : Int)) = upto (i + 1) := by
  apply Array.ext_getElem?
  intro j
  rw [Array.getElem?_setIfInBounds]
  by_cases hj : j < 256
  · rw [upto_get _ _ hj, upto_get _ _ hj]
    by_cases e : i = j
    · subst e; rw [if_pos rfl, if_pos (by rw [upto_size]; exact h), if_pos (by omega)]
    · rw [if_neg e]
      by_cases hl : j < i
      · rw [if_pos hl, if_pos (by omega)]
      · rw [if_neg hl, if_neg (by omega)]
  · rw [if_neg (by omega), Array.getElem?_eq_none (by rw [upto_size]; omega), Array.getElem?_eq_none (by rw [upto_size]; omega)]
/-- The table's block. -/
def TabAt (w : World) (b : Nat) : Prop := b < w.heap.size ∧ ∀ i : Nat, i < 256 → w.cell? ⟨b, i, none⟩ = some (.int .u32 (entryN i : Int))
theorem TabAt.below {w w1 : World} {b : Nat} (h : TabAt w b) (hb : Below w.heap.size w w1) : TabAt w1 b :=
  ⟨Nat.lt_of_lt_of_le h.1 hb.size, fun i hi => (hb.cell (p := ⟨b, i, none⟩) h.1).trans (h.2 i hi)⟩
theorem TabAt.at_ {w : World} {b : Nat} (h : TabAt w b) (i : Nat) (hi : i < 256) : w.cell? (Addr.add ⟨b, 0, none⟩ i) = some (.int .u32 (entryN i : Int)) := by
  unfold Addr.add
  by_cases e : i = 0
  · subst e; rw [if_pos rfl]; exact h.2 0 hi
  · rw [if_neg e]; simpa using h.2 i hi
theorem and_one (m : Nat) (h : m < 4294967296) : bits .and .u32 (m : Int) 1 = ((m % 2 : Nat) : Int) := by
  have := bits_mask .u32 32 (by decide) (fun n h0 h1 => by rw [IntKind.wrap_u32]; omega) 1 (by decide) (m : Int) (by omega) (by omega)
  rw [show ((2 : Int) ^ 1 - 1) = 1 from rfl] at this
  rw [this]; omega
theorem xor_u32 (a b : Nat) (ha : a < 4294967296) (hb : b < 4294967296) : bits .xor .u32 (a : Int) (b : Int) = ((a ^^^ b : Nat) : Int) := by
  have h := xor32 ha hb
  have ha' : a % 2 ^ IntKind.u32.bits = a := Nat.mod_eq_of_lt ha
  have hb' : b % 2 ^ IntKind.u32.bits = b := Nat.mod_eq_of_lt hb
  simp only [bits, BitVec.ofInt_natCast, BitVec.toNat_xor, BitVec.toNat_ofNat, ha', hb']
  rw [IntKind.wrap_u32]; omega
theorem xor_u8 (a b : Nat) (ha : a < 256) (hb : b < 256) : bits .xor .u8 (a : Int) (b : Int) = ((a ^^^ b : Nat) : Int) := by
  have h : a ^^^ b < 256 := Nat.xor_lt_two_pow (n := 8) ha hb
  have ha' : a % 2 ^ IntKind.u8.bits = a := Nat.mod_eq_of_lt ha
  have hb' : b % 2 ^ IntKind.u8.bits = b := Nat.mod_eq_of_lt hb
  simp only [bits, BitVec.ofInt_natCast, BitVec.toNat_xor, BitVec.toNat_ofNat, ha', hb']
  rw [IntKind.wrap_u8]; omega
theorem steps_succ (j n : Nat) : steps (j + 1) n = stepN (steps j n) := by rw [steps_add]; rfl

set_option maxHeartbeats 1000000 in
set_option maxRecDepth 100000 in
theorem make_is (w : World) : Calls Try.prog 13 #[] w fun e w' => e = .returned (.pointer (some ⟨w.heap.size, 0, none⟩)) ∧ w' = w.alloc (.cells (upto 256) 87) := by
  have hz := zeroTab
  go_enter Try.func13, Try.ntmps13
  go_wp2
  rw [upto_zero]
  clear hz
  go_loopw [7] (fun v wr => ∃ i : Nat, i ≤ 256 ∧ v = .int .i64 i ∧ wr = w.alloc (.cells (upto i) 87)) (fun v _ => 256 - (intOf v).toNat)
  case atStart => exact ⟨0, by decide, rfl, rfl⟩
  case round =>
    obtain ⟨i, hi, rfl, rfl⟩ := hrel
    by_cases hlt : i < 256
    · have hc : (w.alloc (.cells (upto i) 87)).cell? ⟨w.heap.size, i, none⟩ = some (.int .u32 0) := by rw [World.cell?_alloc_at _ _ _ _ rfl, upto_get _ _ hlt, if_neg (by omega)]; rfl
      have hf : (w.alloc (.cells (upto i) 87)).frozen? ⟨w.heap.size, i, none⟩ = false := by simp
      go_wp2
      have i256 := hlt
      go_loop [12, 3] (fun v n => ∃ j : Nat, j ≤ 8 ∧ v = .int .i64 j ∧ n = .int .u32 (steps j i : Nat)) (fun v _ => 8 - (intOf v).toNat)
      case atStart => exact ⟨0, by decide, rfl, rfl⟩
      case round =>
        obtain ⟨j, hj, rfl, rfl⟩ := hrel
        have hm := steps_lt j i (by omega)
        have hs := steps_succ j i
        by_cases hjl : j < 8
        · generalize steps j i = m at *
          have ha := and_one m hm
          have HS := Lib.hid hs
          clear hs
          by_cases odd : m % 2 = 1
          · rw [odd] at ha
            have hx := xor_u32 (m / 2) 3988292384 (by omega) (by decide)
            have hx' : bits .xor .u32 ((m : Int) / 2) 3988292384 = ((m / 2 ^^^ 3988292384 : Nat) : Int) := by simpa using hx
            have hst : stepN m = m / 2 ^^^ 3988292384 := by unfold stepN; rw [if_pos odd]
            have HT := Lib.hid hst
            clear hst hx odd
            go_wp2
            go_round
            case rel => exact ⟨j + 1, by omega, by go_num, by rw [HS.out, HT.out]⟩
            case measure => simp [intOf]; omega
          · rw [show m % 2 = 0 by omega] at ha
            have hst : stepN m = m / 2 := by unfold stepN; rw [if_neg odd]
            have HT := Lib.hid hst
            clear hst odd
            go_wp2
            go_round
            case rel => exact ⟨j + 1, by omega, by go_num, by rw [HS.out, HT.out]; simp⟩
            case measure => simp [intOf]; omega
        · obtain rfl : j = 8 := by omega
          clear hs
          go_wp2
          exact ⟨⟨i + 1, by omega, by go_num, by rw [← upto_set i i256]; rfl⟩, by simp [intOf]; omega⟩
    · obtain rfl : i = 256 := by omega
      go_wp2
      go_ret
      exact ⟨rfl, rfl⟩
theorem make_calls (w : World) : Calls Try.prog 13 #[] w fun e w' => ∃ b, e = .returned (.pointer (some ⟨b, 0, none⟩)) ∧ TabAt w' b ∧ Below w.heap.size w w' := by
  refine (make_is w).mono ?_
  rintro e w1 ⟨rfl, rfl⟩
  refine ⟨w.heap.size, rfl, ⟨by simp, fun j hj => ?_⟩, (Below.refl _ _).alloc (Nat.le_refl _) _⟩
  rw [World.cell?_alloc_at _ _ _ _ rfl, upto_get _ _ hj, if_pos hj]

set_option maxHeartbeats 1000000 in
set_option maxRecDepth 100000 in
theorem more_nil (sum : Int) (s : ByteArray) (w : World) : Calls Try.prog 60 #[.pointer none, .int .u32 sum, .string s] w fun e w' => e = .returned (.int .u32 0) ∧ w = w' := by
  go_enter Try.func60, Try.ntmps60
  go_wp2
  go_ret
  exact ⟨rfl, rfl⟩

set_option maxHeartbeats 1000000 in
set_option maxRecDepth 100000 in
theorem more_at (a : Addr) (sum : Nat) (s : ByteArray) (w : World) (hsum : sum < 4294967296) (hs : s.size ≤ 140737488351232) (hT : ∀ i : Nat, i < 256 → w.cell? (a.add i) = some (.int .u32 (entryN i : Int))) :
    Calls Try.prog 60 #[.pointer (some a), .int .u32 (sum : Int), .string s] w fun e w' => e = .returned (.int .u32 (sumN sum s.data.toList : Nat)) ∧ ∃ n, w' = w.drewN n := by
  have HTT := Lib.hid hT
  clear hT
  go_enter Try.func60, Try.ntmps60
  go_wp2
  have hmax : bits .xor .u32 IntKind.u32.max (sum : Int) = ((4294967295 ^^^ sum : Nat) : Int) := xor_u32 4294967295 sum (by decide) hsum
  rw [hmax]
  clear hmax
  go_loopw [7, 15] (fun v n wr => ∃ i m q : Nat, i ≤ s.size ∧ m = reg (4294967295 ^^^ sum) (s.data.toList.take i) ∧ n = .int .i64 i ∧ v = .int .u32 m ∧ wr = w.drewN q) (fun _ v _ => s.size - (intOf v).toNat)
  case atStart => exact ⟨0, _, 0, by omega, rfl, rfl, rfl, rfl⟩
  case round =>
    obtain ⟨i, m, q, hi, hm, rfl, rfl, rfl⟩ := hrel
    have hlt32 : m < 4294967296 := by rw [hm]; exact reg_lt _ _ (xor32 (by decide) hsum)
    have HM := Lib.hid hm
    clear hm
    by_cases hlt : i < s.size
    · have hc := byte_lt s[i]
      obtain ⟨x, hx⟩ : ∃ x, x = m % 256 ^^^ s[i].toNat := ⟨_, rfl⟩
      have hx256 : x < 256 := by rw [hx]; exact Nat.xor_lt_two_pow (n := 8) (by omega) hc
      have hx8 : bits .xor .u8 ((m : Int) % 256) (s[i].toNat : Int) = (x : Int) := by rw [hx]; exact xor_u8 (m % 256) _ (by omega) hc
      have hcell := HTT.out x hx256
      have he := steps_lt 8 x (by omega)
      obtain ⟨y, hy⟩ : ∃ y, y = m / 256 ^^^ entryN x := ⟨_, rfl⟩
      have hx32 : bits .xor .u32 ((m : Int) / 256) ((entryN x : Nat) : Int) = (y : Int) := by rw [hy]; exact xor_u32 (m / 256) _ (by omega) he
      have HX := Lib.hid hx
      have HY := Lib.hid hy
      clear hx hy he
      generalize hex : entryN x = ex at *
      have HE := Lib.hid hex
      clear hex
      go_wp2_with fail
      go_quiet (fail)
      go_wp2
      go_roundw
      case rel =>
        refine ⟨i + 1, y, q + nq, by omega, ?_, by go_num, rfl, rfl⟩
        have ht : s.data.toList.take (i + 1) = s.data.toList.take i ++ [s[i]] := by
          rw [List.take_succ_eq_append_getElem (by simpa using hlt)]; rfl
        rw [ht, reg_snoc, ← HM.out, steps_byte, HY.out, ← HE.out, HX.out]
      case measure => simp [intOf]; omega
    · obtain rfl : i = s.size := by omega
      go_wp2
      have hmax : bits .xor .u32 IntKind.u32.max (m : Int) = ((4294967295 ^^^ m : Nat) : Int) := xor_u32 4294967295 m (by decide) hlt32
      rw [hmax]
      go_ret
      refine ⟨?_, q, rfl⟩
      have ht : s.data.toList.take s.size = s.data.toList := List.take_of_length_le (by simp)
      have e := HM.out
      rw [ht] at e
      rw [e]; rfl

theorem more_calls (b : Nat) (sum : Nat) (s : ByteArray) (w : World) (hsum : sum < 4294967296) (hs : s.size ≤ 140737488351232) (hT : TabAt w b) :
    Calls Try.prog 60 #[.pointer (some ⟨b, 0, none⟩), .int .u32 (sum : Int), .string s] w fun e w' => e = .returned (.int .u32 (sumN sum s.data.toList : Nat)) ∧ ∃ n, w' = w.drewN n :=
  more_at ⟨b, 0, none⟩ sum s w hsum hs (fun i hi => hT.at_ i hi)

set_option maxHeartbeats 1000000 in
set_option maxRecDepth 100000 in
theorem sum_nil (s : ByteArray) (w : World) : Calls Try.prog 45 #[.pointer none, .string s] w fun e w' => e = .returned (.int .u32 0) ∧ w = w' := by
  go_enter Try.func45, Try.ntmps45
  go_wp2_with (go_at_call 60; refine (more_nil _ _ _).mono ?_; rintro e w1 ⟨rfl, rfl⟩)
  go_ret
  exact ⟨rfl, rfl⟩

set_option maxHeartbeats 1000000 in
set_option maxRecDepth 100000 in
theorem sum_at (a : Addr) (s : ByteArray) (w : World) (hs : s.size ≤ 140737488351232) (hT : ∀ i : Nat, i < 256 → w.cell? (a.add i) = some (.int .u32 (entryN i : Int))) :
    Calls Try.prog 45 #[.pointer (some a), .string s] w fun e w' => e = .returned (.int .u32 (sumN 0 s.data.toList : Nat)) ∧ ∃ n, w' = w.drewN n := by
  go_enter Try.func45, Try.ntmps45
  go_wp2_with (go_at_call 60; refine (more_at a 0 s _ (by decide) hs hT).mono ?_; rintro e w1 ⟨rfl, n, rfl⟩)
  go_ret
  exact ⟨rfl, n, rfl⟩
theorem sum_calls (b : Nat) (s : ByteArray) (w : World) (hs : s.size ≤ 140737488351232) (hT : TabAt w b) :
    Calls Try.prog 45 #[.pointer (some ⟨b, 0, none⟩), .string s] w fun e w' => e = .returned (.int .u32 (sumN 0 s.data.toList : Nat)) ∧ ∃ n, w' = w.drewN n :=
  sum_at ⟨b, 0, none⟩ s w hs (fun i hi => hT.at_ i hi)
end Go.Proofs.Ythdlikiakegekaa.CrcW
