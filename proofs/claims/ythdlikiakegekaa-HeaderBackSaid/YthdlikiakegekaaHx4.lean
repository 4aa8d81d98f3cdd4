-- Written for this claim by a program of the session (myprint.py), out of the translation's own print; Lean checks it.
import Derived.Test.YthdlikiakegekaaHx0
import Derived.Test.YthdlikiakegekaaHx3
namespace Go.Proofs.Ythdlikiakegekaa.S
open Go.RowKit Go.Proofs.YthdlikiakegekaaW.PrintWords Go.Proofs.YthdlikiakegekaaW.PrintLast Go.Proofs.YthdlikiakegekaaW.PrintMore
attribute [local go_sem] max2_int min2_int max_two min_two max_three min_three max_four min_four   -- for this text's walks alone
set_option linter.unusedVariables false
set_option linter.unusedSimpArgs false

/-! ### splicerref29_Put: function 14 -/
def splicerref29_Put.f (k : Nat) (a0_0 : Int) (a0_1 : Int) (a0_2 : Int) (a0_3 : Int) (a0_4 : Int) (a0_5 : Int) (a1 : Int) : Option (ByteArray × Int) := (splicerref29_Right.f a0_0 a0_1 a0_2 a0_3 a0_4 a0_5 a1).bind fun t116 => (if t116 = true then ((splicerref02_Num.f k a0_0 1).bind fun t117 => (if 4 + t117.size ≤ 9223372036854775807 then ((splicerref02_Num.f k a0_2 1).bind fun t118 => (if ((⟨#[83, 80, 76, 49]⟩ : ByteArray) ++ t117).size + t118.size ≤ 9223372036854775807 then ((splicerref02_Num.f k a0_1 3).bind fun t119 => (if (((⟨#[83, 80, 76, 49]⟩ : ByteArray) ++ t117) ++ t118).size + t119.size ≤ 9223372036854775807 then ((splicerref02_Num.f k a0_3 2).bind fun t120 => (if ((((⟨#[83, 80, 76, 49]⟩ : ByteArray) ++ t117) ++ t118) ++ t119).size + t120.size ≤ 9223372036854775807 then ((splicerref02_Num.f k a0_4 2).bind fun t121 => (if (((((⟨#[83, 80, 76, 49]⟩ : ByteArray) ++ t117) ++ t118) ++ t119) ++ t120).size + t121.size ≤ 9223372036854775807 then ((splicerref02_Num.f k a0_5 4).bind fun t122 => (if ((((((⟨#[83, 80, 76, 49]⟩ : ByteArray) ++ t117) ++ t118) ++ t119) ++ t120) ++ t121).size + t122.size ≤ 9223372036854775807 then ((splicerref02_Num.f k a1 4).bind fun t123 => (if (((((((⟨#[83, 80, 76, 49]⟩ : ByteArray) ++ t117) ++ t118) ++ t119) ++ t120) ++ t121) ++ t122).size + t123.size ≤ 9223372036854775807 then ((splicerref03_Sum.f k ((((((((⟨#[83, 80, 76, 49]⟩ : ByteArray) ++ t117) ++ t118) ++ t119) ++ t120) ++ t121) ++ t122) ++ t123)).bind fun t124 => ((splicerref02_Num.f k (wrap64 (t124)) 4).bind fun t125 => (if ((((((((⟨#[83, 80, 76, 49]⟩ : ByteArray) ++ t117) ++ t118) ++ t119) ++ t120) ++ t121) ++ t122) ++ t123).size + t125.size ≤ 9223372036854775807 then (some (((((((((⟨#[83, 80, 76, 49]⟩ : ByteArray) ++ t117) ++ t118) ++ t119) ++ t120) ++ t121) ++ t122) ++ t123) ++ t125, 0)) else (none)))) else (none))) else (none))) else (none))) else (none))) else (none))) else (none))) else (none))) else (some ((⟨#[]⟩ : ByteArray), 1)))
theorem splicerref29_Put.mono : ∀ a0 a1 a2 a3 a4 a5 a6 k, LeO (splicerref29_Put.f k a0 a1 a2 a3 a4 a5 a6) (splicerref29_Put.f (k + 1) a0 a1 a2 a3 a4 a5 a6) := by
  intro a0 a1 a2 a3 a4 a5 a6 k
  unfold splicerref29_Put.f
  repeat' first
      | (with_reducible exact splicerref02_Num.mono _ _ _)
      | (with_reducible exact splicerref03_Sum.mono _ _)
      | (with_reducible exact LeO.refl _)
      | (with_reducible exact LeO.none _)
      | (with_reducible refine LeO.ite ?_ ?_)
      | (with_reducible refine LeO.bind ?_ (fun _ => ?_))
      | exact splicerref02_Num.mono _ _ _
      | exact splicerref03_Sum.mono _ _
      | exact LeO.none _
      | refine LeO.ite ?_ ?_
      | refine LeO.bind ?_ (fun _ => ?_)
def splicerref29_Put.T3 : Bool × List (List Nat × List Nat) := (true, [([], []), ([0], [0]), ([1], [1]), ([2], [2]), ([], []), ([4], [4]), ([5, 2], [5]), ([3, 6], [3, 6]), ([], []), ([8], [8]), ([9, 6], [9]), ([7, 10], [7, 10]), ([], []), ([12], [12]), ([13, 10], [13]), ([11, 14], [11, 14]), ([], []), ([16], [16]), ([17, 14], [17]), ([15, 18], [15, 18]), ([], []), ([20], [20]), ([21, 18], [21]), ([19, 22], [19, 22]), ([], []), ([24, 22], [24]), ([23, 25], [23, 25]), ([26, 25, 0, 1, 2, 3, 4, 5, 6, 7, 8, 9, 10, 11, 12, 13, 14, 15, 16, 17, 18, 19, 20, 21, 22, 23, 24, 25, 26], [26])])
def splicerref29_Put.B3 : List Nat := [0, 1, 3, 7, 0, 16, 55, 127, 0, 256, 887, 2047, 0, 4096, 14199, 32767, 0, 65536, 227191, 524287, 0, 1048576, 3635063, 8388607, 0, 24606583, 67108863, 134217727]
theorem splicerref29_Put.tab3 : rtab .any (opsOf Try.f14 3) = splicerref29_Put.T3 := by kernel_rfl
theorem splicerref29_Put.bits3 : waitsOk splicerref29_Put.T3.2 splicerref29_Put.B3 = true := by kernel_rfl
set_option maxHeartbeats 8000000 in
set_option maxRecDepth 100000 in
theorem splicerref29_Put.calls (k : Nat) (a0_0 : Int) (a0_1 : Int) (a0_2 : Int) (a0_3 : Int) (a0_4 : Int) (a0_5 : Int) (a1 : Int) (r1 : ByteArray) (r2 : Int) (w : World) (h : splicerref29_Put.f k a0_0 a0_1 a0_2 a0_3 a0_4 a0_5 a1 = some (r1, r2)) :
    Calls Try.prog 14 #[.agg #[.int .i64 a0_0, .int .i64 a0_1, .int .i64 a0_2, .int .i64 a0_3, .int .i64 a0_4, .int .i64 a0_5], .int .i64 a1] w fun e w' => e = .returned (.tuple #[.string r1, .int .i64 r2]) ∧ Below w.heap.size w w' := by
  have hu23 := Try.underlying23
  have HB := Aside0.mk (Below.refl w.heap.size w)
  have H : ((splicerref29_Right.f a0_0 a0_1 a0_2 a0_3 a0_4 a0_5 a1).bind fun t116 => (if t116 = true then ((splicerref02_Num.f k a0_0 1).bind fun t117 => (if 4 + t117.size ≤ 9223372036854775807 then ((splicerref02_Num.f k a0_2 1).bind fun t118 => (if ((⟨#[83, 80, 76, 49]⟩ : ByteArray) ++ t117).size + t118.size ≤ 9223372036854775807 then ((splicerref02_Num.f k a0_1 3).bind fun t119 => (if (((⟨#[83, 80, 76, 49]⟩ : ByteArray) ++ t117) ++ t118).size + t119.size ≤ 9223372036854775807 then ((splicerref02_Num.f k a0_3 2).bind fun t120 => (if ((((⟨#[83, 80, 76, 49]⟩ : ByteArray) ++ t117) ++ t118) ++ t119).size + t120.size ≤ 9223372036854775807 then ((splicerref02_Num.f k a0_4 2).bind fun t121 => (if (((((⟨#[83, 80, 76, 49]⟩ : ByteArray) ++ t117) ++ t118) ++ t119) ++ t120).size + t121.size ≤ 9223372036854775807 then ((splicerref02_Num.f k a0_5 4).bind fun t122 => (if ((((((⟨#[83, 80, 76, 49]⟩ : ByteArray) ++ t117) ++ t118) ++ t119) ++ t120) ++ t121).size + t122.size ≤ 9223372036854775807 then ((splicerref02_Num.f k a1 4).bind fun t123 => (if (((((((⟨#[83, 80, 76, 49]⟩ : ByteArray) ++ t117) ++ t118) ++ t119) ++ t120) ++ t121) ++ t122).size + t123.size ≤ 9223372036854775807 then ((splicerref03_Sum.f k ((((((((⟨#[83, 80, 76, 49]⟩ : ByteArray) ++ t117) ++ t118) ++ t119) ++ t120) ++ t121) ++ t122) ++ t123)).bind fun t124 => ((splicerref02_Num.f k (wrap64 (t124)) 4).bind fun t125 => (if ((((((((⟨#[83, 80, 76, 49]⟩ : ByteArray) ++ t117) ++ t118) ++ t119) ++ t120) ++ t121) ++ t122) ++ t123).size + t125.size ≤ 9223372036854775807 then (some (((((((((⟨#[83, 80, 76, 49]⟩ : ByteArray) ++ t117) ++ t118) ++ t119) ++ t120) ++ t121) ++ t122) ++ t123) ++ t125, 0)) else (none)))) else (none))) else (none))) else (none))) else (none))) else (none))) else (none))) else (none))) else (some ((⟨#[]⟩ : ByteArray), 1)))) = some (r1, r2) := h
  clear h
  replace H := Option.bind_eq_some_iff.mp H
  obtain ⟨t116, A30, H⟩ := H
  replace H : (if t116 = true then ((splicerref02_Num.f k a0_0 1).bind fun t117 => (if 4 + t117.size ≤ 9223372036854775807 then ((splicerref02_Num.f k a0_2 1).bind fun t118 => (if ((⟨#[83, 80, 76, 49]⟩ : ByteArray) ++ t117).size + t118.size ≤ 9223372036854775807 then ((splicerref02_Num.f k a0_1 3).bind fun t119 => (if (((⟨#[83, 80, 76, 49]⟩ : ByteArray) ++ t117) ++ t118).size + t119.size ≤ 9223372036854775807 then ((splicerref02_Num.f k a0_3 2).bind fun t120 => (if ((((⟨#[83, 80, 76, 49]⟩ : ByteArray) ++ t117) ++ t118) ++ t119).size + t120.size ≤ 9223372036854775807 then ((splicerref02_Num.f k a0_4 2).bind fun t121 => (if (((((⟨#[83, 80, 76, 49]⟩ : ByteArray) ++ t117) ++ t118) ++ t119) ++ t120).size + t121.size ≤ 9223372036854775807 then ((splicerref02_Num.f k a0_5 4).bind fun t122 => (if ((((((⟨#[83, 80, 76, 49]⟩ : ByteArray) ++ t117) ++ t118) ++ t119) ++ t120) ++ t121).size + t122.size ≤ 9223372036854775807 then ((splicerref02_Num.f k a1 4).bind fun t123 => (if (((((((⟨#[83, 80, 76, 49]⟩ : ByteArray) ++ t117) ++ t118) ++ t119) ++ t120) ++ t121) ++ t122).size + t123.size ≤ 9223372036854775807 then ((splicerref03_Sum.f k ((((((((⟨#[83, 80, 76, 49]⟩ : ByteArray) ++ t117) ++ t118) ++ t119) ++ t120) ++ t121) ++ t122) ++ t123)).bind fun t124 => ((splicerref02_Num.f k (wrap64 (t124)) 4).bind fun t125 => (if ((((((((⟨#[83, 80, 76, 49]⟩ : ByteArray) ++ t117) ++ t118) ++ t119) ++ t120) ++ t121) ++ t122) ++ t123).size + t125.size ≤ 9223372036854775807 then (some (((((((((⟨#[83, 80, 76, 49]⟩ : ByteArray) ++ t117) ++ t118) ++ t119) ++ t120) ++ t121) ++ t122) ++ t123) ++ t125, 0)) else (none)))) else (none))) else (none))) else (none))) else (none))) else (none))) else (none))) else (none))) else (some ((⟨#[]⟩ : ByteArray), 1))) = some (r1, r2) := H
  have A3 := Aside0.mk A30
  clear A30
  by_cases c4 : t116 = true
  · subst c4
    have H1 : ((splicerref02_Num.f k a0_0 1).bind fun t117 => (if 4 + t117.size ≤ 9223372036854775807 then ((splicerref02_Num.f k a0_2 1).bind fun t118 => (if ((⟨#[83, 80, 76, 49]⟩ : ByteArray) ++ t117).size + t118.size ≤ 9223372036854775807 then ((splicerref02_Num.f k a0_1 3).bind fun t119 => (if (((⟨#[83, 80, 76, 49]⟩ : ByteArray) ++ t117) ++ t118).size + t119.size ≤ 9223372036854775807 then ((splicerref02_Num.f k a0_3 2).bind fun t120 => (if ((((⟨#[83, 80, 76, 49]⟩ : ByteArray) ++ t117) ++ t118) ++ t119).size + t120.size ≤ 9223372036854775807 then ((splicerref02_Num.f k a0_4 2).bind fun t121 => (if (((((⟨#[83, 80, 76, 49]⟩ : ByteArray) ++ t117) ++ t118) ++ t119) ++ t120).size + t121.size ≤ 9223372036854775807 then ((splicerref02_Num.f k a0_5 4).bind fun t122 => (if ((((((⟨#[83, 80, 76, 49]⟩ : ByteArray) ++ t117) ++ t118) ++ t119) ++ t120) ++ t121).size + t122.size ≤ 9223372036854775807 then ((splicerref02_Num.f k a1 4).bind fun t123 => (if (((((((⟨#[83, 80, 76, 49]⟩ : ByteArray) ++ t117) ++ t118) ++ t119) ++ t120) ++ t121) ++ t122).size + t123.size ≤ 9223372036854775807 then ((splicerref03_Sum.f k ((((((((⟨#[83, 80, 76, 49]⟩ : ByteArray) ++ t117) ++ t118) ++ t119) ++ t120) ++ t121) ++ t122) ++ t123)).bind fun t124 => ((splicerref02_Num.f k (wrap64 (t124)) 4).bind fun t125 => (if ((((((((⟨#[83, 80, 76, 49]⟩ : ByteArray) ++ t117) ++ t118) ++ t119) ++ t120) ++ t121) ++ t122) ++ t123).size + t125.size ≤ 9223372036854775807 then (some (((((((((⟨#[83, 80, 76, 49]⟩ : ByteArray) ++ t117) ++ t118) ++ t119) ++ t120) ++ t121) ++ t122) ++ t123) ++ t125, 0)) else (none)))) else (none))) else (none))) else (none))) else (none))) else (none))) else (none))) else (none))) = some (r1, r2) := by rw [if_pos rfl] at H; exact H
    clear H
    have H := H1
    clear H1
    replace H := Option.bind_eq_some_iff.mp H
    obtain ⟨t117, A50, H⟩ := H
    replace H : (if 4 + t117.size ≤ 9223372036854775807 then ((splicerref02_Num.f k a0_2 1).bind fun t118 => (if ((⟨#[83, 80, 76, 49]⟩ : ByteArray) ++ t117).size + t118.size ≤ 9223372036854775807 then ((splicerref02_Num.f k a0_1 3).bind fun t119 => (if (((⟨#[83, 80, 76, 49]⟩ : ByteArray) ++ t117) ++ t118).size + t119.size ≤ 9223372036854775807 then ((splicerref02_Num.f k a0_3 2).bind fun t120 => (if ((((⟨#[83, 80, 76, 49]⟩ : ByteArray) ++ t117) ++ t118) ++ t119).size + t120.size ≤ 9223372036854775807 then ((splicerref02_Num.f k a0_4 2).bind fun t121 => (if (((((⟨#[83, 80, 76, 49]⟩ : ByteArray) ++ t117) ++ t118) ++ t119) ++ t120).size + t121.size ≤ 9223372036854775807 then ((splicerref02_Num.f k a0_5 4).bind fun t122 => (if ((((((⟨#[83, 80, 76, 49]⟩ : ByteArray) ++ t117) ++ t118) ++ t119) ++ t120) ++ t121).size + t122.size ≤ 9223372036854775807 then ((splicerref02_Num.f k a1 4).bind fun t123 => (if (((((((⟨#[83, 80, 76, 49]⟩ : ByteArray) ++ t117) ++ t118) ++ t119) ++ t120) ++ t121) ++ t122).size + t123.size ≤ 9223372036854775807 then ((splicerref03_Sum.f k ((((((((⟨#[83, 80, 76, 49]⟩ : ByteArray) ++ t117) ++ t118) ++ t119) ++ t120) ++ t121) ++ t122) ++ t123)).bind fun t124 => ((splicerref02_Num.f k (wrap64 (t124)) 4).bind fun t125 => (if ((((((((⟨#[83, 80, 76, 49]⟩ : ByteArray) ++ t117) ++ t118) ++ t119) ++ t120) ++ t121) ++ t122) ++ t123).size + t125.size ≤ 9223372036854775807 then (some (((((((((⟨#[83, 80, 76, 49]⟩ : ByteArray) ++ t117) ++ t118) ++ t119) ++ t120) ++ t121) ++ t122) ++ t123) ++ t125, 0)) else (none)))) else (none))) else (none))) else (none))) else (none))) else (none))) else (none))) else (none)) = some (r1, r2) := H
    have A5 := Aside0.mk A50
    clear A50
    by_cases c6 : 4 + t117.size ≤ 9223372036854775807
    · rw [if_pos c6] at H
      have c6b0 := eq_true c6
      have c6b1 : decide (4 + t117.size ≤ 9223372036854775807) = true := decide_eq_true c6
      try have c6b2 : (9223372036854775807 < 4 + t117.size) = False := eq_false (Nat.not_lt.2 c6)
      replace H := Option.bind_eq_some_iff.mp H
      obtain ⟨t118, A70, H⟩ := H
      replace H : (if ((⟨#[83, 80, 76, 49]⟩ : ByteArray) ++ t117).size + t118.size ≤ 9223372036854775807 then ((splicerref02_Num.f k a0_1 3).bind fun t119 => (if (((⟨#[83, 80, 76, 49]⟩ : ByteArray) ++ t117) ++ t118).size + t119.size ≤ 9223372036854775807 then ((splicerref02_Num.f k a0_3 2).bind fun t120 => (if ((((⟨#[83, 80, 76, 49]⟩ : ByteArray) ++ t117) ++ t118) ++ t119).size + t120.size ≤ 9223372036854775807 then ((splicerref02_Num.f k a0_4 2).bind fun t121 => (if (((((⟨#[83, 80, 76, 49]⟩ : ByteArray) ++ t117) ++ t118) ++ t119) ++ t120).size + t121.size ≤ 9223372036854775807 then ((splicerref02_Num.f k a0_5 4).bind fun t122 => (if ((((((⟨#[83, 80, 76, 49]⟩ : ByteArray) ++ t117) ++ t118) ++ t119) ++ t120) ++ t121).size + t122.size ≤ 9223372036854775807 then ((splicerref02_Num.f k a1 4).bind fun t123 => (if (((((((⟨#[83, 80, 76, 49]⟩ : ByteArray) ++ t117) ++ t118) ++ t119) ++ t120) ++ t121) ++ t122).size + t123.size ≤ 9223372036854775807 then ((splicerref03_Sum.f k ((((((((⟨#[83, 80, 76, 49]⟩ : ByteArray) ++ t117) ++ t118) ++ t119) ++ t120) ++ t121) ++ t122) ++ t123)).bind fun t124 => ((splicerref02_Num.f k (wrap64 (t124)) 4).bind fun t125 => (if ((((((((⟨#[83, 80, 76, 49]⟩ : ByteArray) ++ t117) ++ t118) ++ t119) ++ t120) ++ t121) ++ t122) ++ t123).size + t125.size ≤ 9223372036854775807 then (some (((((((((⟨#[83, 80, 76, 49]⟩ : ByteArray) ++ t117) ++ t118) ++ t119) ++ t120) ++ t121) ++ t122) ++ t123) ++ t125, 0)) else (none)))) else (none))) else (none))) else (none))) else (none))) else (none))) else (none)) = some (r1, r2) := H
      have A7 := Aside0.mk A70
      clear A70
      by_cases c8 : ((⟨#[83, 80, 76, 49]⟩ : ByteArray) ++ t117).size + t118.size ≤ 9223372036854775807
      · rw [if_pos c8] at H
        have c8b0 := eq_true c8
        have c8b1 : decide (((⟨#[83, 80, 76, 49]⟩ : ByteArray) ++ t117).size + t118.size ≤ 9223372036854775807) = true := decide_eq_true c8
        try have c8b2 : (9223372036854775807 < ((⟨#[83, 80, 76, 49]⟩ : ByteArray) ++ t117).size + t118.size) = False := eq_false (Nat.not_lt.2 c8)
        try (have c8b3 := c8b2; rw [ByteArray.size_append] at c8b3)
        try have c8b4 : (9223372036854775807 < 4 + t117.size + t118.size) = False := by (have h_ := c8b2; simp only [ByteArray.size_append] at h_; exact h_)
        replace H := Option.bind_eq_some_iff.mp H
        obtain ⟨t119, A90, H⟩ := H
        replace H : (if (((⟨#[83, 80, 76, 49]⟩ : ByteArray) ++ t117) ++ t118).size + t119.size ≤ 9223372036854775807 then ((splicerref02_Num.f k a0_3 2).bind fun t120 => (if ((((⟨#[83, 80, 76, 49]⟩ : ByteArray) ++ t117) ++ t118) ++ t119).size + t120.size ≤ 9223372036854775807 then ((splicerref02_Num.f k a0_4 2).bind fun t121 => (if (((((⟨#[83, 80, 76, 49]⟩ : ByteArray) ++ t117) ++ t118) ++ t119) ++ t120).size + t121.size ≤ 9223372036854775807 then ((splicerref02_Num.f k a0_5 4).bind fun t122 => (if ((((((⟨#[83, 80, 76, 49]⟩ : ByteArray) ++ t117) ++ t118) ++ t119) ++ t120) ++ t121).size + t122.size ≤ 9223372036854775807 then ((splicerref02_Num.f k a1 4).bind fun t123 => (if (((((((⟨#[83, 80, 76, 49]⟩ : ByteArray) ++ t117) ++ t118) ++ t119) ++ t120) ++ t121) ++ t122).size + t123.size ≤ 9223372036854775807 then ((splicerref03_Sum.f k ((((((((⟨#[83, 80, 76, 49]⟩ : ByteArray) ++ t117) ++ t118) ++ t119) ++ t120) ++ t121) ++ t122) ++ t123)).bind fun t124 => ((splicerref02_Num.f k (wrap64 (t124)) 4).bind fun t125 => (if ((((((((⟨#[83, 80, 76, 49]⟩ : ByteArray) ++ t117) ++ t118) ++ t119) ++ t120) ++ t121) ++ t122) ++ t123).size + t125.size ≤ 9223372036854775807 then (some (((((((((⟨#[83, 80, 76, 49]⟩ : ByteArray) ++ t117) ++ t118) ++ t119) ++ t120) ++ t121) ++ t122) ++ t123) ++ t125, 0)) else (none)))) else (none))) else (none))) else (none))) else (none))) else (none)) = some (r1, r2) := H
        have A9 := Aside0.mk A90
        clear A90
        by_cases c10 : (((⟨#[83, 80, 76, 49]⟩ : ByteArray) ++ t117) ++ t118).size + t119.size ≤ 9223372036854775807
        · rw [if_pos c10] at H
          have c10b0 := eq_true c10
          have c10b1 : decide ((((⟨#[83, 80, 76, 49]⟩ : ByteArray) ++ t117) ++ t118).size + t119.size ≤ 9223372036854775807) = true := decide_eq_true c10
          try have c10b2 : (9223372036854775807 < (((⟨#[83, 80, 76, 49]⟩ : ByteArray) ++ t117) ++ t118).size + t119.size) = False := eq_false (Nat.not_lt.2 c10)
          try (have c10b3 := c10b2; rw [ByteArray.size_append] at c10b3)
          try have c10b4 : (9223372036854775807 < 4 + t117.size + t118.size + t119.size) = False := by (have h_ := c10b2; simp only [ByteArray.size_append] at h_; exact h_)
          replace H := Option.bind_eq_some_iff.mp H
          obtain ⟨t120, A110, H⟩ := H
          replace H : (if ((((⟨#[83, 80, 76, 49]⟩ : ByteArray) ++ t117) ++ t118) ++ t119).size + t120.size ≤ 9223372036854775807 then ((splicerref02_Num.f k a0_4 2).bind fun t121 => (if (((((⟨#[83, 80, 76, 49]⟩ : ByteArray) ++ t117) ++ t118) ++ t119) ++ t120).size + t121.size ≤ 9223372036854775807 then ((splicerref02_Num.f k a0_5 4).bind fun t122 => (if ((((((⟨#[83, 80, 76, 49]⟩ : ByteArray) ++ t117) ++ t118) ++ t119) ++ t120) ++ t121).size + t122.size ≤ 9223372036854775807 then ((splicerref02_Num.f k a1 4).bind fun t123 => (if (((((((⟨#[83, 80, 76, 49]⟩ : ByteArray) ++ t117) ++ t118) ++ t119) ++ t120) ++ t121) ++ t122).size + t123.size ≤ 9223372036854775807 then ((splicerref03_Sum.f k ((((((((⟨#[83, 80, 76, 49]⟩ : ByteArray) ++ t117) ++ t118) ++ t119) ++ t120) ++ t121) ++ t122) ++ t123)).bind fun t124 => ((splicerref02_Num.f k (wrap64 (t124)) 4).bind fun t125 => (if ((((((((⟨#[83, 80, 76, 49]⟩ : ByteArray) ++ t117) ++ t118) ++ t119) ++ t120) ++ t121) ++ t122) ++ t123).size + t125.size ≤ 9223372036854775807 then (some (((((((((⟨#[83, 80, 76, 49]⟩ : ByteArray) ++ t117) ++ t118) ++ t119) ++ t120) ++ t121) ++ t122) ++ t123) ++ t125, 0)) else (none)))) else (none))) else (none))) else (none))) else (none)) = some (r1, r2) := H
          have A11 := Aside0.mk A110
          clear A110
          by_cases c12 : ((((⟨#[83, 80, 76, 49]⟩ : ByteArray) ++ t117) ++ t118) ++ t119).size + t120.size ≤ 9223372036854775807
          · rw [if_pos c12] at H
            have c12b0 := eq_true c12
            have c12b1 : decide (((((⟨#[83, 80, 76, 49]⟩ : ByteArray) ++ t117) ++ t118) ++ t119).size + t120.size ≤ 9223372036854775807) = true := decide_eq_true c12
            try have c12b2 : (9223372036854775807 < ((((⟨#[83, 80, 76, 49]⟩ : ByteArray) ++ t117) ++ t118) ++ t119).size + t120.size) = False := eq_false (Nat.not_lt.2 c12)
            try (have c12b3 := c12b2; rw [ByteArray.size_append] at c12b3)
            try have c12b4 : (9223372036854775807 < 4 + t117.size + t118.size + t119.size + t120.size) = False := by (have h_ := c12b2; simp only [ByteArray.size_append] at h_; exact h_)
            replace H := Option.bind_eq_some_iff.mp H
            obtain ⟨t121, A130, H⟩ := H
            replace H : (if (((((⟨#[83, 80, 76, 49]⟩ : ByteArray) ++ t117) ++ t118) ++ t119) ++ t120).size + t121.size ≤ 9223372036854775807 then ((splicerref02_Num.f k a0_5 4).bind fun t122 => (if ((((((⟨#[83, 80, 76, 49]⟩ : ByteArray) ++ t117) ++ t118) ++ t119) ++ t120) ++ t121).size + t122.size ≤ 9223372036854775807 then ((splicerref02_Num.f k a1 4).bind fun t123 => (if (((((((⟨#[83, 80, 76, 49]⟩ : ByteArray) ++ t117) ++ t118) ++ t119) ++ t120) ++ t121) ++ t122).size + t123.size ≤ 9223372036854775807 then ((splicerref03_Sum.f k ((((((((⟨#[83, 80, 76, 49]⟩ : ByteArray) ++ t117) ++ t118) ++ t119) ++ t120) ++ t121) ++ t122) ++ t123)).bind fun t124 => ((splicerref02_Num.f k (wrap64 (t124)) 4).bind fun t125 => (if ((((((((⟨#[83, 80, 76, 49]⟩ : ByteArray) ++ t117) ++ t118) ++ t119) ++ t120) ++ t121) ++ t122) ++ t123).size + t125.size ≤ 9223372036854775807 then (some (((((((((⟨#[83, 80, 76, 49]⟩ : ByteArray) ++ t117) ++ t118) ++ t119) ++ t120) ++ t121) ++ t122) ++ t123) ++ t125, 0)) else (none)))) else (none))) else (none))) else (none)) = some (r1, r2) := H
            have A13 := Aside0.mk A130
            clear A130
            by_cases c14 : (((((⟨#[83, 80, 76, 49]⟩ : ByteArray) ++ t117) ++ t118) ++ t119) ++ t120).size + t121.size ≤ 9223372036854775807
            · rw [if_pos c14] at H
              have c14b0 := eq_true c14
              have c14b1 : decide ((((((⟨#[83, 80, 76, 49]⟩ : ByteArray) ++ t117) ++ t118) ++ t119) ++ t120).size + t121.size ≤ 9223372036854775807) = true := decide_eq_true c14
              try have c14b2 : (9223372036854775807 < (((((⟨#[83, 80, 76, 49]⟩ : ByteArray) ++ t117) ++ t118) ++ t119) ++ t120).size + t121.size) = False := eq_false (Nat.not_lt.2 c14)
              try (have c14b3 := c14b2; rw [ByteArray.size_append] at c14b3)
              try have c14b4 : (9223372036854775807 < 4 + t117.size + t118.size + t119.size + t120.size + t121.size) = False := by (have h_ := c14b2; simp only [ByteArray.size_append] at h_; exact h_)
              replace H := Option.bind_eq_some_iff.mp H
              obtain ⟨t122, A150, H⟩ := H
              replace H : (if ((((((⟨#[83, 80, 76, 49]⟩ : ByteArray) ++ t117) ++ t118) ++ t119) ++ t120) ++ t121).size + t122.size ≤ 9223372036854775807 then ((splicerref02_Num.f k a1 4).bind fun t123 => (if (((((((⟨#[83, 80, 76, 49]⟩ : ByteArray) ++ t117) ++ t118) ++ t119) ++ t120) ++ t121) ++ t122).size + t123.size ≤ 9223372036854775807 then ((splicerref03_Sum.f k ((((((((⟨#[83, 80, 76, 49]⟩ : ByteArray) ++ t117) ++ t118) ++ t119) ++ t120) ++ t121) ++ t122) ++ t123)).bind fun t124 => ((splicerref02_Num.f k (wrap64 (t124)) 4).bind fun t125 => (if ((((((((⟨#[83, 80, 76, 49]⟩ : ByteArray) ++ t117) ++ t118) ++ t119) ++ t120) ++ t121) ++ t122) ++ t123).size + t125.size ≤ 9223372036854775807 then (some (((((((((⟨#[83, 80, 76, 49]⟩ : ByteArray) ++ t117) ++ t118) ++ t119) ++ t120) ++ t121) ++ t122) ++ t123) ++ t125, 0)) else (none)))) else (none))) else (none)) = some (r1, r2) := H
              have A15 := Aside0.mk A150
              clear A150
              by_cases c16 : ((((((⟨#[83, 80, 76, 49]⟩ : ByteArray) ++ t117) ++ t118) ++ t119) ++ t120) ++ t121).size + t122.size ≤ 9223372036854775807
              · rw [if_pos c16] at H
                have c16b0 := eq_true c16
                have c16b1 : decide (((((((⟨#[83, 80, 76, 49]⟩ : ByteArray) ++ t117) ++ t118) ++ t119) ++ t120) ++ t121).size + t122.size ≤ 9223372036854775807) = true := decide_eq_true c16
                try have c16b2 : (9223372036854775807 < ((((((⟨#[83, 80, 76, 49]⟩ : ByteArray) ++ t117) ++ t118) ++ t119) ++ t120) ++ t121).size + t122.size) = False := eq_false (Nat.not_lt.2 c16)
                try (have c16b3 := c16b2; rw [ByteArray.size_append] at c16b3)
                try have c16b4 : (9223372036854775807 < 4 + t117.size + t118.size + t119.size + t120.size + t121.size + t122.size) = False := by (have h_ := c16b2; simp only [ByteArray.size_append] at h_; exact h_)
                replace H := Option.bind_eq_some_iff.mp H
                obtain ⟨t123, A170, H⟩ := H
                replace H : (if (((((((⟨#[83, 80, 76, 49]⟩ : ByteArray) ++ t117) ++ t118) ++ t119) ++ t120) ++ t121) ++ t122).size + t123.size ≤ 9223372036854775807 then ((splicerref03_Sum.f k ((((((((⟨#[83, 80, 76, 49]⟩ : ByteArray) ++ t117) ++ t118) ++ t119) ++ t120) ++ t121) ++ t122) ++ t123)).bind fun t124 => ((splicerref02_Num.f k (wrap64 (t124)) 4).bind fun t125 => (if ((((((((⟨#[83, 80, 76, 49]⟩ : ByteArray) ++ t117) ++ t118) ++ t119) ++ t120) ++ t121) ++ t122) ++ t123).size + t125.size ≤ 9223372036854775807 then (some (((((((((⟨#[83, 80, 76, 49]⟩ : ByteArray) ++ t117) ++ t118) ++ t119) ++ t120) ++ t121) ++ t122) ++ t123) ++ t125, 0)) else (none)))) else (none)) = some (r1, r2) := H
                have A17 := Aside0.mk A170
                clear A170
                by_cases c18 : (((((((⟨#[83, 80, 76, 49]⟩ : ByteArray) ++ t117) ++ t118) ++ t119) ++ t120) ++ t121) ++ t122).size + t123.size ≤ 9223372036854775807
                · rw [if_pos c18] at H
                  have c18b0 := eq_true c18
                  have c18b1 : decide ((((((((⟨#[83, 80, 76, 49]⟩ : ByteArray) ++ t117) ++ t118) ++ t119) ++ t120) ++ t121) ++ t122).size + t123.size ≤ 9223372036854775807) = true := decide_eq_true c18
                  try have c18b2 : (9223372036854775807 < (((((((⟨#[83, 80, 76, 49]⟩ : ByteArray) ++ t117) ++ t118) ++ t119) ++ t120) ++ t121) ++ t122).size + t123.size) = False := eq_false (Nat.not_lt.2 c18)
                  try (have c18b3 := c18b2; rw [ByteArray.size_append] at c18b3)
                  try have c18b4 : (9223372036854775807 < 4 + t117.size + t118.size + t119.size + t120.size + t121.size + t122.size + t123.size) = False := by (have h_ := c18b2; simp only [ByteArray.size_append] at h_; exact h_)
                  replace H := Option.bind_eq_some_iff.mp H
                  obtain ⟨t124, A190, H⟩ := H
                  replace H : ((splicerref02_Num.f k (wrap64 (t124)) 4).bind fun t125 => (if ((((((((⟨#[83, 80, 76, 49]⟩ : ByteArray) ++ t117) ++ t118) ++ t119) ++ t120) ++ t121) ++ t122) ++ t123).size + t125.size ≤ 9223372036854775807 then (some (((((((((⟨#[83, 80, 76, 49]⟩ : ByteArray) ++ t117) ++ t118) ++ t119) ++ t120) ++ t121) ++ t122) ++ t123) ++ t125, 0)) else (none))) = some (r1, r2) := H
                  have A19 := Aside0.mk A190
                  clear A190
                  replace H := Option.bind_eq_some_iff.mp H
                  obtain ⟨t125, A200, H⟩ := H
                  replace H : (if ((((((((⟨#[83, 80, 76, 49]⟩ : ByteArray) ++ t117) ++ t118) ++ t119) ++ t120) ++ t121) ++ t122) ++ t123).size + t125.size ≤ 9223372036854775807 then (some (((((((((⟨#[83, 80, 76, 49]⟩ : ByteArray) ++ t117) ++ t118) ++ t119) ++ t120) ++ t121) ++ t122) ++ t123) ++ t125, 0)) else (none)) = some (r1, r2) := H
                  have A20 := Aside0.mk A200
                  clear A200
                  by_cases c21 : ((((((((⟨#[83, 80, 76, 49]⟩ : ByteArray) ++ t117) ++ t118) ++ t119) ++ t120) ++ t121) ++ t122) ++ t123).size + t125.size ≤ 9223372036854775807
                  · rw [if_pos c21] at H
                    have c21b0 := eq_true c21
                    have c21b1 : decide (((((((((⟨#[83, 80, 76, 49]⟩ : ByteArray) ++ t117) ++ t118) ++ t119) ++ t120) ++ t121) ++ t122) ++ t123).size + t125.size ≤ 9223372036854775807) = true := decide_eq_true c21
                    try have c21b2 : (9223372036854775807 < ((((((((⟨#[83, 80, 76, 49]⟩ : ByteArray) ++ t117) ++ t118) ++ t119) ++ t120) ++ t121) ++ t122) ++ t123).size + t125.size) = False := eq_false (Nat.not_lt.2 c21)
                    try (have c21b3 := c21b2; rw [ByteArray.size_append] at c21b3)
                    try have c21b4 : (9223372036854775807 < 4 + t117.size + t118.size + t119.size + t120.size + t121.size + t122.size + t123.size + t125.size) = False := by (have h_ := c21b2; simp only [ByteArray.size_append] at h_; exact h_)
                    simp only [Option.some.injEq, Prod.mk.injEq] at H
                    obtain ⟨rfl, rfl⟩ := H
                    go_enter Try.func14, Try.ntmps14
                    try go_wp2_with (first | ((with_reducible refine gate_dst (N := 2) rfl ?_); refine box_event ?hg (N := 2) ?hd (cs := #[.int .i64 a0_0, .int .i64 a0_1, .int .i64 a0_2, .int .i64 a0_3, .int .i64 a0_4, .int .i64 a0_5]) (t := 23) ?hr ?_; (case hd => rfl); (case hg => rfl); (case hr => first | (go_simp; done) | (go_simp; rfl)); intro gb115 hg w22 hbox hb; have n0_ := Aside0.mk (below_step (by repeat (first | (with_reducible first | exact HB.out | apply below_alloc | apply pw_below_drewN | apply below_drew1) | exact HB.out)) hb); have n1_ := Aside0.mk (hbox); have n2_ := Aside0.mk ((by rw [hg]; exact (below_size (by repeat (first | (with_reducible first | exact HB.out | apply below_alloc | apply pw_below_drewN | apply below_drew1) | exact HB.out))) : w.heap.size ≤ gb115)); have n3_ := Aside0.mk ((by rw [hg]; exact (below_size (by repeat (first | (with_reducible first | exact HB.out | apply below_alloc | apply pw_below_drewN | apply below_drew1) | exact HB.out))) : w.heap.size ≤ gb115)); clear HB; have HB := n0_; have BK115 := n1_; have GW115 := n2_; have GE115 := n3_; clear n0_ n1_ n2_ n3_; clear hb hbox hg; have hcz23_0 : w22.cell? ⟨gb115, 0, none⟩ = some (.int .i64 a0_0) := (blk_cell BK115.out 0).trans rfl; have hcz23_1 : w22.cell? ⟨gb115, 1, none⟩ = some (.int .i64 a0_1) := (blk_cell BK115.out 1).trans rfl; have hcz23_2 : w22.cell? ⟨gb115, 2, none⟩ = some (.int .i64 a0_2) := (blk_cell BK115.out 2).trans rfl; have hcz23_3 : w22.cell? ⟨gb115, 3, none⟩ = some (.int .i64 a0_3) := (blk_cell BK115.out 3).trans rfl; have hcz23_4 : w22.cell? ⟨gb115, 4, none⟩ = some (.int .i64 a0_4) := (blk_cell BK115.out 4).trans rfl; have hcz23_5 : w22.cell? ⟨gb115, 5, none⟩ = some (.int .i64 a0_5) := (blk_cell BK115.out 5).trans rfl; have hfz23_0 := blk_frozen BK115.out 0; have hfz23_1 := blk_frozen BK115.out 1; have hfz23_2 := blk_frozen BK115.out 2; have hfz23_3 := blk_frozen BK115.out 3; have hfz23_4 := blk_frozen BK115.out 4; have hfz23_5 := blk_frozen BK115.out 5) | ((with_reducible refine gate_callee (f := 16) rfl ?_); refine goesL_ (some 9) rfl rfl Try.func16 (by kernel_rfl) rfl #[.agg #[.int .i64 a0_0, .int .i64 a0_1, .int .i64 a0_2, .int .i64 a0_3, .int .i64 a0_4, .int .i64 a0_5], .int .i64 a1] rfl (by (try simp only [List.map_toArray, List.map_cons, List.map_nil]); first | done | rfl | (simp only [List.length_drop, List.length_take]; rfl)) ?_; (with_reducible refine (splicerref29_Right.calls a0_0 a0_1 a0_2 a0_3 a0_4 a0_5 a1 true _ A3.out).mono ?_); rintro e w24 ⟨rfl, hb⟩; refine ⟨_, rfl, ?_⟩; have n0_ := Aside0.mk (blk_below (g := gb115) (o := .cells #[.int .i64 a0_0, .int .i64 a0_1, .int .i64 a0_2, .int .i64 a0_3, .int .i64 a0_4, .int .i64 a0_5] 23 (0, 0)) (by (with_reducible repeat (first | refine blk_drewN ?_ _ | refine blk_drew ?_ | refine blk_alloc ?_ _)); exact BK115.out) hb); have n1_ := Aside0.mk (below_step (by repeat (first | (with_reducible first | exact HB.out | apply below_alloc | apply pw_below_drewN | apply below_drew1 | refine below_set ?_ GE115.out) | exact HB.out)) hb); clear BK115; clear HB; have BK115 := n0_; have HB := n1_; clear n0_ n1_; (try clear hb); (try clear hb2); (try clear hk); (try clear hi)))
                    have n0_ := Aside0.mk (blk_drew BK115.out)
                    have n1_ := Aside0.mk (below_drew1 HB.out)
                    clear BK115
                    clear HB
                    have BK115 := n0_
                    have HB := n1_
                    clear n0_ n1_
                    refine start_ (n := 28) (S := fun w' => w'.cell? ⟨gb115, 0, none⟩ = some (.int .i64 a0_0) ∧ w'.cell? ⟨gb115, 1, none⟩ = some (.int .i64 a0_1) ∧ w'.cell? ⟨gb115, 2, none⟩ = some (.int .i64 a0_2) ∧ w'.cell? ⟨gb115, 3, none⟩ = some (.int .i64 a0_3) ∧ w'.cell? ⟨gb115, 4, none⟩ = some (.int .i64 a0_4) ∧ w'.cell? ⟨gb115, 5, none⟩ = some (.int .i64 a0_5)) (ds := []) #[false, false, false, false, false, false, false, false, false, false, false, false, false, false, false, false, false, false, false, false, false, false, false, false, false, false, false, false] (by kernel_rfl) rfl rfl ⟨(blk_cell BK115.out 0).trans rfl, (blk_cell BK115.out 1).trans rfl, (blk_cell BK115.out 2).trans rfl, (blk_cell BK115.out 3).trans rfl, (blk_cell BK115.out 4).trans rfl, (blk_cell BK115.out 5).trans rfl⟩ (fun hHeld => ?_); refine with_tabW splicerref29_Put.tab3 splicerref29_Put.bits3 (fun HT_ HW_ => ?_)
                    generalize w24.drew = w25 at BK115 HB hHeld ⊢
                    refine pure_ (i := 0) (N := some 11) (v := ?_) (a' := ?_) #[true, false, false, false, false, false, false, false, false, false, false, false, false, false, false, false, false, false, false, false, false, false, false, false, false, false, false, false] rfl rfl (any_of HT_.out (by kernel_rfl)) (fun _ _ _ h => h) (Or.inl ⟨by rfl, ?_⟩) ?_ ?_
                    rotate_left
                    · intro w'
                      go_simp
                      with_reducible rfl
                    rotate_left
                    · simp only [Act.put, List.setIfInBounds_toArray, List.set_cons_zero, List.set_cons_succ, i64_w, i32_w]
                      rfl
                    refine pure_ (i := 4) (N := some 15) (v := ?_) (a' := ?_) #[true, false, false, false, true, false, false, false, false, false, false, false, false, false, false, false, false, false, false, false, false, false, false, false, false, false, false, false] rfl rfl (any_of HT_.out (by kernel_rfl)) (fun _ _ _ h => h) (Or.inl ⟨by rfl, ?_⟩) ?_ ?_
                    rotate_left
                    · intro w'
                      go_simp
                      with_reducible rfl
                    rotate_left
                    · simp only [Act.put, List.setIfInBounds_toArray, List.set_cons_zero, List.set_cons_succ, i64_w, i32_w]
                      rfl
                    refine pure_ (i := 8) (N := some 19) (v := ?_) (a' := ?_) #[true, false, false, false, true, false, false, false, true, false, false, false, false, false, false, false, false, false, false, false, false, false, false, false, false, false, false, false] rfl rfl (any_of HT_.out (by kernel_rfl)) (fun _ _ _ h => h) (Or.inl ⟨by rfl, ?_⟩) ?_ ?_
                    rotate_left
                    · intro w'
                      go_simp
                      with_reducible rfl
                    rotate_left
                    · simp only [Act.put, List.setIfInBounds_toArray, List.set_cons_zero, List.set_cons_succ, i64_w, i32_w]
                      rfl
                    refine pure_ (i := 12) (N := some 23) (v := ?_) (a' := ?_) #[true, false, false, false, true, false, false, false, true, false, false, false, true, false, false, false, false, false, false, false, false, false, false, false, false, false, false, false] rfl rfl (any_of HT_.out (by kernel_rfl)) (fun _ _ _ h => h) (Or.inl ⟨by rfl, ?_⟩) ?_ ?_
                    rotate_left
                    · intro w'
                      go_simp
                      with_reducible rfl
                    rotate_left
                    · simp only [Act.put, List.setIfInBounds_toArray, List.set_cons_zero, List.set_cons_succ, i64_w, i32_w]
                      rfl
                    refine pure_ (i := 16) (N := some 27) (v := ?_) (a' := ?_) #[true, false, false, false, true, false, false, false, true, false, false, false, true, false, false, false, true, false, false, false, false, false, false, false, false, false, false, false] rfl rfl (any_of HT_.out (by kernel_rfl)) (fun _ _ _ h => h) (Or.inl ⟨by rfl, ?_⟩) ?_ ?_
                    rotate_left
                    · intro w'
                      go_simp
                      with_reducible rfl
                    rotate_left
                    · simp only [Act.put, List.setIfInBounds_toArray, List.set_cons_zero, List.set_cons_succ, i64_w, i32_w]
                      rfl
                    refine pure_ (i := 20) (N := some 31) (v := ?_) (a' := ?_) #[true, false, false, false, true, false, false, false, true, false, false, false, true, false, false, false, true, false, false, false, true, false, false, false, false, false, false, false] rfl rfl (any_of HT_.out (by kernel_rfl)) (fun _ _ _ h => h) (Or.inl ⟨by rfl, ?_⟩) ?_ ?_
                    rotate_left
                    · intro w'
                      go_simp
                      with_reducible rfl
                    rotate_left
                    · simp only [Act.put, List.setIfInBounds_toArray, List.set_cons_zero, List.set_cons_succ, i64_w, i32_w]
                      rfl
                    refine pure_ (i := 24) (N := some 35) (v := ?_) (a' := ?_) #[true, false, false, false, true, false, false, false, true, false, false, false, true, false, false, false, true, false, false, false, true, false, false, false, true, false, false, false] rfl rfl (any_of HT_.out (by kernel_rfl)) (fun _ _ _ h => h) (Or.inl ⟨by rfl, ?_⟩) ?_ ?_
                    rotate_left
                    · intro w'
                      go_simp
                      with_reducible rfl
                    rotate_left
                    · simp only [Act.put, List.setIfInBounds_toArray, List.set_cons_zero, List.set_cons_succ, i64_w, i32_w]
                      rfl
                    refine take_ (i := 1) (N := some 12) (v := ?_) (a' := ?_) #[true, true, false, false, true, false, false, false, true, false, false, false, true, false, false, false, true, false, false, false, true, false, false, false, true, false, false, false] rfl rfl (take_ofW HT_.out HW_.out (by kernel_rfl)) (fun _ _ _ h => h) (Or.inl ⟨by rfl, ?_⟩) hHeld ?_ ?_
                    rotate_left
                    · rintro w' ⟨s0, s1, s2, s3, s4, s5⟩
                      go_simp
                      with_reducible rfl
                    rotate_left
                    · simp only [Act.put, List.setIfInBounds_toArray, List.set_cons_zero, List.set_cons_succ, i64_w, i32_w]
                      rfl
                    refine take_ (i := 5) (N := some 16) (v := ?_) (a' := ?_) #[true, true, false, false, true, true, false, false, true, false, false, false, true, false, false, false, true, false, false, false, true, false, false, false, true, false, false, false] rfl rfl (take_ofW HT_.out HW_.out (by kernel_rfl)) (fun _ _ _ h => h) (Or.inl ⟨by rfl, ?_⟩) hHeld ?_ ?_
                    rotate_left
                    · rintro w' ⟨s0, s1, s2, s3, s4, s5⟩
                      go_simp
                      with_reducible rfl
                    rotate_left
                    · simp only [Act.put, List.setIfInBounds_toArray, List.set_cons_zero, List.set_cons_succ, i64_w, i32_w]
                      rfl
                    refine take_ (i := 9) (N := some 20) (v := ?_) (a' := ?_) #[true, true, false, false, true, true, false, false, true, true, false, false, true, false, false, false, true, false, false, false, true, false, false, false, true, false, false, false] rfl rfl (take_ofW HT_.out HW_.out (by kernel_rfl)) (fun _ _ _ h => h) (Or.inl ⟨by rfl, ?_⟩) hHeld ?_ ?_
                    rotate_left
                    · rintro w' ⟨s0, s1, s2, s3, s4, s5⟩
                      go_simp
                      with_reducible rfl
                    rotate_left
                    · simp only [Act.put, List.setIfInBounds_toArray, List.set_cons_zero, List.set_cons_succ, i64_w, i32_w]
                      rfl
                    refine take_ (i := 13) (N := some 24) (v := ?_) (a' := ?_) #[true, true, false, false, true, true, false, false, true, true, false, false, true, true, false, false, true, false, false, false, true, false, false, false, true, false, false, false] rfl rfl (take_ofW HT_.out HW_.out (by kernel_rfl)) (fun _ _ _ h => h) (Or.inl ⟨by rfl, ?_⟩) hHeld ?_ ?_
                    rotate_left
                    · rintro w' ⟨s0, s1, s2, s3, s4, s5⟩
                      go_simp
                      with_reducible rfl
                    rotate_left
                    · simp only [Act.put, List.setIfInBounds_toArray, List.set_cons_zero, List.set_cons_succ, i64_w, i32_w]
                      rfl
                    refine take_ (i := 17) (N := some 28) (v := ?_) (a' := ?_) #[true, true, false, false, true, true, false, false, true, true, false, false, true, true, false, false, true, true, false, false, true, false, false, false, true, false, false, false] rfl rfl (take_ofW HT_.out HW_.out (by kernel_rfl)) (fun _ _ _ h => h) (Or.inl ⟨by rfl, ?_⟩) hHeld ?_ ?_
                    rotate_left
                    · rintro w' ⟨s0, s1, s2, s3, s4, s5⟩
                      go_simp
                      with_reducible rfl
                    rotate_left
                    · simp only [Act.put, List.setIfInBounds_toArray, List.set_cons_zero, List.set_cons_succ, i64_w, i32_w]
                      rfl
                    refine take_ (i := 21) (N := some 32) (v := ?_) (a' := ?_) #[true, true, false, false, true, true, false, false, true, true, false, false, true, true, false, false, true, true, false, false, true, true, false, false, true, false, false, false] rfl rfl (take_ofW HT_.out HW_.out (by kernel_rfl)) (fun _ _ _ h => h) (Or.inl ⟨by rfl, ?_⟩) hHeld ?_ ?_
                    rotate_left
                    · rintro w' ⟨s0, s1, s2, s3, s4, s5⟩
                      go_simp
                      with_reducible rfl
                    rotate_left
                    · simp only [Act.put, List.setIfInBounds_toArray, List.set_cons_zero, List.set_cons_succ, i64_w, i32_w]
                      rfl
                    refine one_ (i := 2) (N := some 13) #[true, true, true, false, true, true, false, false, true, true, false, false, true, true, false, false, true, true, false, false, true, true, false, false, true, false, false, false] rfl rfl (one_of HT_.out (by kernel_rfl)) (by decide) (fun K hK => ?_)
                    refine goes_ Try.func47 (by kernel_rfl) rfl #[.int .i64 a0_0, .int .i64 1] (by rfl) rfl rfl (by (try simp only [List.map_toArray, List.map_cons, List.map_nil]); first | done | rfl | (simp only [List.length_drop, List.length_take]; rfl)) ?_
                    with_reducible refine (splicerref02_Num.calls k a0_0 1 t117 _ A5.out).mono ?_
                    rintro e w26 ⟨rfl, hb⟩
                    refine ⟨_, rfl, ?_⟩
                    have n0_ := Aside0.mk (blk_below (g := gb115) (o := .cells #[.int .i64 a0_0, .int .i64 a0_1, .int .i64 a0_2, .int .i64 a0_3, .int .i64 a0_4, .int .i64 a0_5] 23 (0, 0)) (by (with_reducible repeat (first | refine blk_drewN ?_ _ | refine blk_drew ?_ | refine blk_alloc ?_ _)); exact BK115.out) hb)
                    have n1_ := Aside0.mk (below_step (by repeat (first | (with_reducible first | exact HB.out | apply below_alloc | apply pw_below_drewN | apply below_drew1 | refine below_set ?_ GE115.out) | exact HB.out)) hb)
                    clear BK115
                    clear HB
                    have BK115 := n0_
                    have HB := n1_
                    clear n0_ n1_
                    (try clear hb)
                    (try clear hb2)
                    (try clear hk)
                    (try clear hi)
                    refine hK.out _ _ ⟨(blk_cell BK115.out 0).trans rfl, (blk_cell BK115.out 1).trans rfl, (blk_cell BK115.out 2).trans rfl, (blk_cell BK115.out 3).trans rfl, (blk_cell BK115.out 4).trans rfl, (blk_cell BK115.out 5).trans rfl⟩ (fun hHeld => ?_)
                    clear hK K
                    refine norm_ (a' := ?_) ?_ ?_
                    rotate_left
                    · show Act.put _ (some 13) _ = _
                      simp only [Act.put, List.setIfInBounds_toArray, List.set_cons_zero, List.set_cons_succ, i64_w, i32_w]
                      rfl
                    refine pure_ (i := 3) (N := some 14) (v := ?_) (a' := ?_) #[true, true, true, true, true, true, false, false, true, true, false, false, true, true, false, false, true, true, false, false, true, true, false, false, true, false, false, false] rfl rfl (any_of HT_.out (by kernel_rfl)) (fun _ _ _ h => h) (Or.inl ⟨by rfl, ?_⟩) ?_ ?_
                    rotate_left
                    · intro w'
                      go_simp
                      with_reducible rfl
                    rotate_left
                    · simp only [Act.put, List.setIfInBounds_toArray, List.set_cons_zero, List.set_cons_succ, i64_w, i32_w]
                      rfl
                    refine one_ (i := 6) (N := some 17) #[true, true, true, true, true, true, true, false, true, true, false, false, true, true, false, false, true, true, false, false, true, true, false, false, true, false, false, false] rfl rfl (one_of HT_.out (by kernel_rfl)) (by decide) (fun K hK => ?_)
                    refine goes_ Try.func47 (by kernel_rfl) rfl #[.int .i64 a0_2, .int .i64 1] (by rfl) rfl rfl (by (try simp only [List.map_toArray, List.map_cons, List.map_nil]); first | done | rfl | (simp only [List.length_drop, List.length_take]; rfl)) ?_
                    with_reducible refine (splicerref02_Num.calls k a0_2 1 t118 _ A7.out).mono ?_
                    rintro e w27 ⟨rfl, hb⟩
                    refine ⟨_, rfl, ?_⟩
                    have n0_ := Aside0.mk (blk_below (g := gb115) (o := .cells #[.int .i64 a0_0, .int .i64 a0_1, .int .i64 a0_2, .int .i64 a0_3, .int .i64 a0_4, .int .i64 a0_5] 23 (0, 0)) (by (with_reducible repeat (first | refine blk_drewN ?_ _ | refine blk_drew ?_ | refine blk_alloc ?_ _)); exact BK115.out) hb)
                    have n1_ := Aside0.mk (below_step (by repeat (first | (with_reducible first | exact HB.out | apply below_alloc | apply pw_below_drewN | apply below_drew1 | refine below_set ?_ GE115.out) | exact HB.out)) hb)
                    clear BK115
                    clear HB
                    have BK115 := n0_
                    have HB := n1_
                    clear n0_ n1_
                    (try clear hb)
                    (try clear hb2)
                    (try clear hk)
                    (try clear hi)
                    refine hK.out _ _ ⟨(blk_cell BK115.out 0).trans rfl, (blk_cell BK115.out 1).trans rfl, (blk_cell BK115.out 2).trans rfl, (blk_cell BK115.out 3).trans rfl, (blk_cell BK115.out 4).trans rfl, (blk_cell BK115.out 5).trans rfl⟩ (fun hHeld => ?_)
                    clear hK K
                    refine norm_ (a' := ?_) ?_ ?_
                    rotate_left
                    · show Act.put _ (some 17) _ = _
                      simp only [Act.put, List.setIfInBounds_toArray, List.set_cons_zero, List.set_cons_succ, i64_w, i32_w]
                      rfl
                    refine pure_ (i := 7) (N := some 18) (v := ?_) (a' := ?_) #[true, true, true, true, true, true, true, true, true, true, false, false, true, true, false, false, true, true, false, false, true, true, false, false, true, false, false, false] rfl rfl (any_of HT_.out (by kernel_rfl)) (fun _ _ _ h => h) (Or.inl ⟨by rfl, ?_⟩) ?_ ?_
                    rotate_left
                    · intro w'
                      go_simp
                      with_reducible rfl
                    rotate_left
                    · simp only [Act.put, List.setIfInBounds_toArray, List.set_cons_zero, List.set_cons_succ, i64_w, i32_w]
                      rfl
                    refine one_ (i := 10) (N := some 21) #[true, true, true, true, true, true, true, true, true, true, true, false, true, true, false, false, true, true, false, false, true, true, false, false, true, false, false, false] rfl rfl (one_of HT_.out (by kernel_rfl)) (by decide) (fun K hK => ?_)
                    refine goes_ Try.func47 (by kernel_rfl) rfl #[.int .i64 a0_1, .int .i64 3] (by rfl) rfl rfl (by (try simp only [List.map_toArray, List.map_cons, List.map_nil]); first | done | rfl | (simp only [List.length_drop, List.length_take]; rfl)) ?_
                    with_reducible refine (splicerref02_Num.calls k a0_1 3 t119 _ A9.out).mono ?_
                    rintro e w28 ⟨rfl, hb⟩
                    refine ⟨_, rfl, ?_⟩
                    have n0_ := Aside0.mk (blk_below (g := gb115) (o := .cells #[.int .i64 a0_0, .int .i64 a0_1, .int .i64 a0_2, .int .i64 a0_3, .int .i64 a0_4, .int .i64 a0_5] 23 (0, 0)) (by (with_reducible repeat (first | refine blk_drewN ?_ _ | refine blk_drew ?_ | refine blk_alloc ?_ _)); exact BK115.out) hb)
                    have n1_ := Aside0.mk (below_step (by repeat (first | (with_reducible first | exact HB.out | apply below_alloc | apply pw_below_drewN | apply below_drew1 | refine below_set ?_ GE115.out) | exact HB.out)) hb)
                    clear BK115
                    clear HB
                    have BK115 := n0_
                    have HB := n1_
                    clear n0_ n1_
                    (try clear hb)
                    (try clear hb2)
                    (try clear hk)
                    (try clear hi)
                    refine hK.out _ _ ⟨(blk_cell BK115.out 0).trans rfl, (blk_cell BK115.out 1).trans rfl, (blk_cell BK115.out 2).trans rfl, (blk_cell BK115.out 3).trans rfl, (blk_cell BK115.out 4).trans rfl, (blk_cell BK115.out 5).trans rfl⟩ (fun hHeld => ?_)
                    clear hK K
                    refine norm_ (a' := ?_) ?_ ?_
                    rotate_left
                    · show Act.put _ (some 21) _ = _
                      simp only [Act.put, List.setIfInBounds_toArray, List.set_cons_zero, List.set_cons_succ, i64_w, i32_w]
                      rfl
                    refine pure_ (i := 11) (N := some 22) (v := ?_) (a' := ?_) #[true, true, true, true, true, true, true, true, true, true, true, true, true, true, false, false, true, true, false, false, true, true, false, false, true, false, false, false] rfl rfl (any_of HT_.out (by kernel_rfl)) (fun _ _ _ h => h) (Or.inl ⟨by rfl, ?_⟩) ?_ ?_
                    rotate_left
                    · intro w'
                      go_simp
                      with_reducible rfl
                    rotate_left
                    · simp only [Act.put, List.setIfInBounds_toArray, List.set_cons_zero, List.set_cons_succ, i64_w, i32_w]
                      rfl
                    refine one_ (i := 14) (N := some 25) #[true, true, true, true, true, true, true, true, true, true, true, true, true, true, true, false, true, true, false, false, true, true, false, false, true, false, false, false] rfl rfl (one_of HT_.out (by kernel_rfl)) (by decide) (fun K hK => ?_)
                    refine goes_ Try.func47 (by kernel_rfl) rfl #[.int .i64 a0_3, .int .i64 2] (by rfl) rfl rfl (by (try simp only [List.map_toArray, List.map_cons, List.map_nil]); first | done | rfl | (simp only [List.length_drop, List.length_take]; rfl)) ?_
                    with_reducible refine (splicerref02_Num.calls k a0_3 2 t120 _ A11.out).mono ?_
                    rintro e w29 ⟨rfl, hb⟩
                    refine ⟨_, rfl, ?_⟩
                    have n0_ := Aside0.mk (blk_below (g := gb115) (o := .cells #[.int .i64 a0_0, .int .i64 a0_1, .int .i64 a0_2, .int .i64 a0_3, .int .i64 a0_4, .int .i64 a0_5] 23 (0, 0)) (by (with_reducible repeat (first | refine blk_drewN ?_ _ | refine blk_drew ?_ | refine blk_alloc ?_ _)); exact BK115.out) hb)
                    have n1_ := Aside0.mk (below_step (by repeat (first | (with_reducible first | exact HB.out | apply below_alloc | apply pw_below_drewN | apply below_drew1 | refine below_set ?_ GE115.out) | exact HB.out)) hb)
                    clear BK115
                    clear HB
                    have BK115 := n0_
                    have HB := n1_
                    clear n0_ n1_
                    (try clear hb)
                    (try clear hb2)
                    (try clear hk)
                    (try clear hi)
                    refine hK.out _ _ ⟨(blk_cell BK115.out 0).trans rfl, (blk_cell BK115.out 1).trans rfl, (blk_cell BK115.out 2).trans rfl, (blk_cell BK115.out 3).trans rfl, (blk_cell BK115.out 4).trans rfl, (blk_cell BK115.out 5).trans rfl⟩ (fun hHeld => ?_)
                    clear hK K
                    refine norm_ (a' := ?_) ?_ ?_
                    rotate_left
                    · show Act.put _ (some 25) _ = _
                      simp only [Act.put, List.setIfInBounds_toArray, List.set_cons_zero, List.set_cons_succ, i64_w, i32_w]
                      rfl
                    refine pure_ (i := 15) (N := some 26) (v := ?_) (a' := ?_) #[true, true, true, true, true, true, true, true, true, true, true, true, true, true, true, true, true, true, false, false, true, true, false, false, true, false, false, false] rfl rfl (any_of HT_.out (by kernel_rfl)) (fun _ _ _ h => h) (Or.inl ⟨by rfl, ?_⟩) ?_ ?_
                    rotate_left
                    · intro w'
                      go_simp
                      with_reducible rfl
                    rotate_left
                    · simp only [Act.put, List.setIfInBounds_toArray, List.set_cons_zero, List.set_cons_succ, i64_w, i32_w]
                      rfl
                    refine one_ (i := 18) (N := some 29) #[true, true, true, true, true, true, true, true, true, true, true, true, true, true, true, true, true, true, true, false, true, true, false, false, true, false, false, false] rfl rfl (one_of HT_.out (by kernel_rfl)) (by decide) (fun K hK => ?_)
                    refine goes_ Try.func47 (by kernel_rfl) rfl #[.int .i64 a0_4, .int .i64 2] (by rfl) rfl rfl (by (try simp only [List.map_toArray, List.map_cons, List.map_nil]); first | done | rfl | (simp only [List.length_drop, List.length_take]; rfl)) ?_
                    with_reducible refine (splicerref02_Num.calls k a0_4 2 t121 _ A13.out).mono ?_
                    rintro e w30 ⟨rfl, hb⟩
                    refine ⟨_, rfl, ?_⟩
                    have n0_ := Aside0.mk (blk_below (g := gb115) (o := .cells #[.int .i64 a0_0, .int .i64 a0_1, .int .i64 a0_2, .int .i64 a0_3, .int .i64 a0_4, .int .i64 a0_5] 23 (0, 0)) (by (with_reducible repeat (first | refine blk_drewN ?_ _ | refine blk_drew ?_ | refine blk_alloc ?_ _)); exact BK115.out) hb)
                    have n1_ := Aside0.mk (below_step (by repeat (first | (with_reducible first | exact HB.out | apply below_alloc | apply pw_below_drewN | apply below_drew1 | refine below_set ?_ GE115.out) | exact HB.out)) hb)
                    clear BK115
                    clear HB
                    have BK115 := n0_
                    have HB := n1_
                    clear n0_ n1_
                    (try clear hb)
                    (try clear hb2)
                    (try clear hk)
                    (try clear hi)
                    refine hK.out _ _ ⟨(blk_cell BK115.out 0).trans rfl, (blk_cell BK115.out 1).trans rfl, (blk_cell BK115.out 2).trans rfl, (blk_cell BK115.out 3).trans rfl, (blk_cell BK115.out 4).trans rfl, (blk_cell BK115.out 5).trans rfl⟩ (fun hHeld => ?_)
                    clear hK K
                    refine norm_ (a' := ?_) ?_ ?_
                    rotate_left
                    · show Act.put _ (some 29) _ = _
                      simp only [Act.put, List.setIfInBounds_toArray, List.set_cons_zero, List.set_cons_succ, i64_w, i32_w]
                      rfl
                    refine pure_ (i := 19) (N := some 30) (v := ?_) (a' := ?_) #[true, true, true, true, true, true, true, true, true, true, true, true, true, true, true, true, true, true, true, true, true, true, false, false, true, false, false, false] rfl rfl (any_of HT_.out (by kernel_rfl)) (fun _ _ _ h => h) (Or.inl ⟨by rfl, ?_⟩) ?_ ?_
                    rotate_left
                    · intro w'
                      go_simp
                      with_reducible rfl
                    rotate_left
                    · simp only [Act.put, List.setIfInBounds_toArray, List.set_cons_zero, List.set_cons_succ, i64_w, i32_w]
                      rfl
                    refine one_ (i := 22) (N := some 33) #[true, true, true, true, true, true, true, true, true, true, true, true, true, true, true, true, true, true, true, true, true, true, true, false, true, false, false, false] rfl rfl (one_of HT_.out (by kernel_rfl)) (by decide) (fun K hK => ?_)
                    refine goes_ Try.func47 (by kernel_rfl) rfl #[.int .i64 a0_5, .int .i64 4] (by rfl) rfl rfl (by (try simp only [List.map_toArray, List.map_cons, List.map_nil]); first | done | rfl | (simp only [List.length_drop, List.length_take]; rfl)) ?_
                    with_reducible refine (splicerref02_Num.calls k a0_5 4 t122 _ A15.out).mono ?_
                    rintro e w31 ⟨rfl, hb⟩
                    refine ⟨_, rfl, ?_⟩
                    have n0_ := Aside0.mk (blk_below (g := gb115) (o := .cells #[.int .i64 a0_0, .int .i64 a0_1, .int .i64 a0_2, .int .i64 a0_3, .int .i64 a0_4, .int .i64 a0_5] 23 (0, 0)) (by (with_reducible repeat (first | refine blk_drewN ?_ _ | refine blk_drew ?_ | refine blk_alloc ?_ _)); exact BK115.out) hb)
                    have n1_ := Aside0.mk (below_step (by repeat (first | (with_reducible first | exact HB.out | apply below_alloc | apply pw_below_drewN | apply below_drew1 | refine below_set ?_ GE115.out) | exact HB.out)) hb)
                    clear BK115
                    clear HB
                    have BK115 := n0_
                    have HB := n1_
                    clear n0_ n1_
                    (try clear hb)
                    (try clear hb2)
                    (try clear hk)
                    (try clear hi)
                    refine hK.out _ _ ⟨(blk_cell BK115.out 0).trans rfl, (blk_cell BK115.out 1).trans rfl, (blk_cell BK115.out 2).trans rfl, (blk_cell BK115.out 3).trans rfl, (blk_cell BK115.out 4).trans rfl, (blk_cell BK115.out 5).trans rfl⟩ (fun hHeld => ?_)
                    clear hK K
                    refine norm_ (a' := ?_) ?_ ?_
                    rotate_left
                    · show Act.put _ (some 33) _ = _
                      simp only [Act.put, List.setIfInBounds_toArray, List.set_cons_zero, List.set_cons_succ, i64_w, i32_w]
                      rfl
                    refine pure_ (i := 23) (N := some 34) (v := ?_) (a' := ?_) #[true, true, true, true, true, true, true, true, true, true, true, true, true, true, true, true, true, true, true, true, true, true, true, true, true, false, false, false] rfl rfl (any_of HT_.out (by kernel_rfl)) (fun _ _ _ h => h) (Or.inl ⟨by rfl, ?_⟩) ?_ ?_
                    rotate_left
                    · intro w'
                      go_simp
                      with_reducible rfl
                    rotate_left
                    · simp only [Act.put, List.setIfInBounds_toArray, List.set_cons_zero, List.set_cons_succ, i64_w, i32_w]
                      rfl
                    refine one_ (i := 25) (N := some 36) #[true, true, true, true, true, true, true, true, true, true, true, true, true, true, true, true, true, true, true, true, true, true, true, true, true, true, false, false] rfl rfl (one_of HT_.out (by kernel_rfl)) (by decide) (fun K hK => ?_)
                    refine goes_ Try.func47 (by kernel_rfl) rfl #[.int .i64 a1, .int .i64 4] (by rfl) rfl rfl (by (try simp only [List.map_toArray, List.map_cons, List.map_nil]); first | done | rfl | (simp only [List.length_drop, List.length_take]; rfl)) ?_
                    with_reducible refine (splicerref02_Num.calls k a1 4 t123 _ A17.out).mono ?_
                    rintro e w32 ⟨rfl, hb⟩
                    refine ⟨_, rfl, ?_⟩
                    have n0_ := Aside0.mk (blk_below (g := gb115) (o := .cells #[.int .i64 a0_0, .int .i64 a0_1, .int .i64 a0_2, .int .i64 a0_3, .int .i64 a0_4, .int .i64 a0_5] 23 (0, 0)) (by (with_reducible repeat (first | refine blk_drewN ?_ _ | refine blk_drew ?_ | refine blk_alloc ?_ _)); exact BK115.out) hb)
                    have n1_ := Aside0.mk (below_step (by repeat (first | (with_reducible first | exact HB.out | apply below_alloc | apply pw_below_drewN | apply below_drew1 | refine below_set ?_ GE115.out) | exact HB.out)) hb)
                    clear BK115
                    clear HB
                    have BK115 := n0_
                    have HB := n1_
                    clear n0_ n1_
                    (try clear hb)
                    (try clear hb2)
                    (try clear hk)
                    (try clear hi)
                    refine hK.out _ _ ⟨(blk_cell BK115.out 0).trans rfl, (blk_cell BK115.out 1).trans rfl, (blk_cell BK115.out 2).trans rfl, (blk_cell BK115.out 3).trans rfl, (blk_cell BK115.out 4).trans rfl, (blk_cell BK115.out 5).trans rfl⟩ (fun hHeld => ?_)
                    clear hK K
                    refine norm_ (a' := ?_) ?_ ?_
                    rotate_left
                    · show Act.put _ (some 36) _ = _
                      simp only [Act.put, List.setIfInBounds_toArray, List.set_cons_zero, List.set_cons_succ, i64_w, i32_w]
                      rfl
                    refine pure_ (i := 26) (N := some 37) (v := ?_) (a' := ?_) #[true, true, true, true, true, true, true, true, true, true, true, true, true, true, true, true, true, true, true, true, true, true, true, true, true, true, true, false] rfl rfl (any_of HT_.out (by kernel_rfl)) (fun _ _ _ h => h) (Or.inl ⟨by rfl, ?_⟩) ?_ ?_
                    rotate_left
                    · intro w'
                      go_simp
                      with_reducible rfl
                    rotate_left
                    · simp only [Act.put, List.setIfInBounds_toArray, List.set_cons_zero, List.set_cons_succ, i64_w, i32_w]
                      rfl
                    refine pure_ (i := 27) (N := some 6) (v := ?_) (a' := ?_) #[true, true, true, true, true, true, true, true, true, true, true, true, true, true, true, true, true, true, true, true, true, true, true, true, true, true, true, true] rfl rfl (any_of HT_.out (by kernel_rfl)) (fun _ _ _ h => h) (Or.inl ⟨by rfl, ?_⟩) ?_ ?_
                    rotate_left
                    · intro w'
                      go_simp
                      with_reducible rfl
                    rotate_left
                    · simp only [Act.put, List.setIfInBounds_toArray, List.set_cons_zero, List.set_cons_succ, i64_w, i32_w]
                      rfl
                    refine done_ (done_of HT_.out (by kernel_rfl)) ?_
                    try go_wp2_with (first | ((with_reducible refine gate_callee (f := 48) rfl ?_); refine goesL_ (some 40) rfl rfl Try.func48 (by kernel_rfl) rfl #[.string ((((((((⟨#[83, 80, 76, 49]⟩ : ByteArray) ++ t117) ++ t118) ++ t119) ++ t120) ++ t121) ++ t122) ++ t123)] rfl (by (try simp only [List.map_toArray, List.map_cons, List.map_nil]); first | done | rfl | (simp only [List.length_drop, List.length_take]; rfl)) ?_; (with_reducible refine (splicerref03_Sum.calls k ((((((((⟨#[83, 80, 76, 49]⟩ : ByteArray) ++ t117) ++ t118) ++ t119) ++ t120) ++ t121) ++ t122) ++ t123) t124 _ A19.out).mono ?_); rintro e w' ⟨rfl, ⟨nd, rfl⟩⟩; refine ⟨_, rfl, ?_⟩) | ((with_reducible refine gate_callee (f := 47) rfl ?_); refine goesL_ (some 42) rfl rfl Try.func47 (by kernel_rfl) rfl #[.int .i64 (wrap64 (t124)), .int .i64 4] rfl (by (try simp only [List.map_toArray, List.map_cons, List.map_nil]); first | done | rfl | (simp only [List.length_drop, List.length_take]; rfl)) ?_; (with_reducible refine (splicerref02_Num.calls k (wrap64 (t124)) 4 t125 _ A20.out).mono ?_); rintro e w33 ⟨rfl, hb⟩; refine ⟨_, rfl, ?_⟩; have n0_ := Aside0.mk (blk_below (g := gb115) (o := .cells #[.int .i64 a0_0, .int .i64 a0_1, .int .i64 a0_2, .int .i64 a0_3, .int .i64 a0_4, .int .i64 a0_5] 23 (0, 0)) (by (with_reducible repeat (first | refine blk_drewN ?_ _ | refine blk_drew ?_ | refine blk_alloc ?_ _)); exact BK115.out) hb); have n1_ := Aside0.mk (below_step (by repeat (first | (with_reducible first | exact HB.out | apply below_alloc | apply pw_below_drewN | apply below_drew1 | refine below_set ?_ GE115.out) | exact HB.out)) hb); clear BK115; clear HB; have BK115 := n0_; have HB := n1_; clear n0_ n1_; (try clear hb); (try clear hb2); (try clear hk); (try clear hi)))
                    go_ret2
                    exact ⟨by first | rfl | (simp [errW_none, errW_some] <;> rfl) | (simp [*, errW_none, errW_some] <;> rfl), by repeat (first | (with_reducible first | exact HB.out | apply below_alloc | apply pw_below_drewN | apply below_drew1 | refine below_set ?_ GE115.out) | exact HB.out)⟩
                  · rw [if_neg c21] at H
                    exact absurd H (by simp)
                · rw [if_neg c18] at H
                  exact absurd H (by simp)
              · rw [if_neg c16] at H
                exact absurd H (by simp)
            · rw [if_neg c14] at H
              exact absurd H (by simp)
          · rw [if_neg c12] at H
            exact absurd H (by simp)
        · rw [if_neg c10] at H
          exact absurd H (by simp)
      · rw [if_neg c8] at H
        exact absurd H (by simp)
    · rw [if_neg c6] at H
      exact absurd H (by simp)
  · replace c4 := Bool.eq_false_iff.mpr c4
    subst c4
    have H1 : (some ((⟨#[]⟩ : ByteArray), 1)) = some (r1, r2) := by rw [if_neg (show ¬ (false = true) by decide)] at H; exact H
    clear H
    have H := H1
    clear H1
    simp only [Option.some.injEq, Prod.mk.injEq] at H
    obtain ⟨rfl, rfl⟩ := H
    go_enter Try.func14, Try.ntmps14
    go_wp2_with (first | ((with_reducible refine gate_dst (N := 2) rfl ?_); refine box_event ?hg (N := 2) ?hd (cs := #[.int .i64 a0_0, .int .i64 a0_1, .int .i64 a0_2, .int .i64 a0_3, .int .i64 a0_4, .int .i64 a0_5]) (t := 23) ?hr ?_; (case hd => rfl); (case hg => rfl); (case hr => first | (go_simp; done) | (go_simp; rfl)); intro gb115 hg w34 hbox hb; have n0_ := Aside0.mk (below_step (by repeat (first | (with_reducible first | exact HB.out | apply below_alloc | apply pw_below_drewN | apply below_drew1) | exact HB.out)) hb); have n1_ := Aside0.mk (hbox); have n2_ := Aside0.mk ((by rw [hg]; exact (below_size (by repeat (first | (with_reducible first | exact HB.out | apply below_alloc | apply pw_below_drewN | apply below_drew1) | exact HB.out))) : w.heap.size ≤ gb115)); have n3_ := Aside0.mk ((by rw [hg]; exact (below_size (by repeat (first | (with_reducible first | exact HB.out | apply below_alloc | apply pw_below_drewN | apply below_drew1) | exact HB.out))) : w.heap.size ≤ gb115)); clear HB; have HB := n0_; have BK115 := n1_; have GW115 := n2_; have GE115 := n3_; clear n0_ n1_ n2_ n3_; clear hb hbox hg; have hcz35_0 : w34.cell? ⟨gb115, 0, none⟩ = some (.int .i64 a0_0) := (blk_cell BK115.out 0).trans rfl; have hcz35_1 : w34.cell? ⟨gb115, 1, none⟩ = some (.int .i64 a0_1) := (blk_cell BK115.out 1).trans rfl; have hcz35_2 : w34.cell? ⟨gb115, 2, none⟩ = some (.int .i64 a0_2) := (blk_cell BK115.out 2).trans rfl; have hcz35_3 : w34.cell? ⟨gb115, 3, none⟩ = some (.int .i64 a0_3) := (blk_cell BK115.out 3).trans rfl; have hcz35_4 : w34.cell? ⟨gb115, 4, none⟩ = some (.int .i64 a0_4) := (blk_cell BK115.out 4).trans rfl; have hcz35_5 : w34.cell? ⟨gb115, 5, none⟩ = some (.int .i64 a0_5) := (blk_cell BK115.out 5).trans rfl; have hfz35_0 := blk_frozen BK115.out 0; have hfz35_1 := blk_frozen BK115.out 1; have hfz35_2 := blk_frozen BK115.out 2; have hfz35_3 := blk_frozen BK115.out 3; have hfz35_4 := blk_frozen BK115.out 4; have hfz35_5 := blk_frozen BK115.out 5) | ((with_reducible refine gate_callee (f := 16) rfl ?_); refine goesL_ (some 9) rfl rfl Try.func16 (by kernel_rfl) rfl #[.agg #[.int .i64 a0_0, .int .i64 a0_1, .int .i64 a0_2, .int .i64 a0_3, .int .i64 a0_4, .int .i64 a0_5], .int .i64 a1] rfl (by (try simp only [List.map_toArray, List.map_cons, List.map_nil]); first | done | rfl | (simp only [List.length_drop, List.length_take]; rfl)) ?_; (with_reducible refine (splicerref29_Right.calls a0_0 a0_1 a0_2 a0_3 a0_4 a0_5 a1 false _ A3.out).mono ?_); rintro e w36 ⟨rfl, hb⟩; refine ⟨_, rfl, ?_⟩; have n0_ := Aside0.mk (blk_below (g := gb115) (o := .cells #[.int .i64 a0_0, .int .i64 a0_1, .int .i64 a0_2, .int .i64 a0_3, .int .i64 a0_4, .int .i64 a0_5] 23 (0, 0)) (by (with_reducible repeat (first | refine blk_drewN ?_ _ | refine blk_drew ?_ | refine blk_alloc ?_ _)); exact BK115.out) hb); have n1_ := Aside0.mk (below_step (by repeat (first | (with_reducible first | exact HB.out | apply below_alloc | apply pw_below_drewN | apply below_drew1 | refine below_set ?_ GE115.out) | exact HB.out)) hb); clear BK115; clear HB; have BK115 := n0_; have HB := n1_; clear n0_ n1_; (try clear hb); (try clear hb2); (try clear hk); (try clear hi)))
    go_ret2
    exact ⟨by first | rfl | (simp [errW_none, errW_some] <;> rfl) | (simp [*, errW_none, errW_some] <;> rfl), by repeat (first | (with_reducible first | exact HB.out | apply below_alloc | apply pw_below_drewN | apply below_drew1 | refine below_set ?_ GE115.out) | exact HB.out)⟩

/-- A state of type 95 at block g of W; what its slices lead to came in by w0. -/
def IsS95 (w0 W : World) (g : Nat) (f0 : ByteArray) (f1 : Int) (f2 : Bool) : Prop := W.heap[g]? = some (.cells #[.string f0, .int .i64 f1, .bool f2] 95 (0, 0)) ∧ w0.heap.size ≤ g
theorem IsS95.grown {w0 W : World} {g : Nat} {f0 : ByteArray} {f1 : Int} {f2 : Bool} {W1 : World} {row : Option Nat} (h : IsS95 w0 W g f0 f1 f2) (hw : W.grownBy W1 row) (hne : some g ≠ row) : IsS95 w0 W1 g f0 f1 f2 := by
  obtain ⟨hb, hg⟩ := h
  exact ⟨blk_grown hb hw hne, hg⟩
theorem IsS95.own_neN {w0 W : World} {g : Nat} {f0 : ByteArray} {f1 : Int} {f2 : Bool} {α : Type} {d : Kd α} {e : Nat} {base : Nat} {ok : Nat → Prop} {v : Value} {xs : List α} (h : IsS95 w0 W g f0 f1 f2) (ho : Kd.N d e W base ok v xs) (ht : e ≠ 95) : some g ≠ v.ownBlock := by
  obtain ⟨hb, hg⟩ := h
  exact Kd.N_ne ho hb ht
theorem IsS95.fresh {w0 W : World} {g : Nat} {f0 : ByteArray} {f1 : Int} {f2 : Bool} (h : IsS95 w0 W g f0 f1 f2) : ∀ k, W.heap.size ≤ k → k ≠ g := by
  obtain ⟨hb, hg⟩ := h
  exact Kd.freshB hb
theorem IsS95.kept {w0 W : World} {g : Nat} {f0 : ByteArray} {f1 : Int} {f2 : Bool} {W1 : World} {S : Nat → Prop} (h : IsS95 w0 W g f0 f1 f2) (hk : Kept W W1 S) (hne : ¬ S g) : IsS95 w0 W1 g f0 f1 f2 := by
  obtain ⟨hb, hg⟩ := h
  exact ⟨blk_kept hb hk hne, hg⟩
theorem IsS95.below {w0 W : World} {g : Nat} {f0 : ByteArray} {f1 : Int} {f2 : Bool} {W1 : World} (h : IsS95 w0 W g f0 f1 f2) (hw : Below W.heap.size W W1) : IsS95 w0 W1 g f0 f1 f2 := h.grown (grown_of_below hw none) (by simp)
theorem IsS95.alloc {w0 W : World} {g : Nat} {f0 : ByteArray} {f1 : Int} {f2 : Bool} (h : IsS95 w0 W g f0 f1 f2) (o : Obj) : IsS95 w0 (W.alloc o) g f0 f1 f2 := h.below (below_alloc (Below.refl _ _) o)
theorem IsS95.drewN {w0 W : World} {g : Nat} {f0 : ByteArray} {f1 : Int} {f2 : Bool} (h : IsS95 w0 W g f0 f1 f2) (m : Nat) : IsS95 w0 (W.drewN m) g f0 f1 f2 := h
theorem IsS95.drew {w0 W : World} {g : Nat} {f0 : ByteArray} {f1 : Int} {f2 : Bool} (h : IsS95 w0 W g f0 f1 f2) : IsS95 w0 W.drew g f0 f1 f2 := h
theorem IsS95.at_ {w0 W : World} {g : Nat} {f0 : ByteArray} {f1 : Int} {f2 : Bool} {w' : World} {m : Nat} (hq : W.drewN m = w') (h : IsS95 w0 W g f0 f1 f2) : IsS95 w0 w' g f0 f1 f2 := by subst hq; exact IsS95.drewN h m
theorem IsS95.apart {w0 W : World} {g : Nat} {f0 : ByteArray} {f1 : Int} {f2 : Bool} {α : Type} {d : Kd α} {e : Nat} {base : Nat} {ok : Nat → Prop} {v : Value} {xs : List α} (h : IsS95 w0 W g f0 f1 f2) (ho : d.R e W base ok v xs) (ht : ∀ q, q ∈ e :: d.E → q ≠ 95) : d.R e W base (fun k => ok k ∧ k ≠ g) v xs := by
  obtain ⟨hb, hg⟩ := h
  exact Kd.R_types ho hb ht
theorem IsS95.own_ne {w0 W : World} {g : Nat} {f0 : ByteArray} {f1 : Int} {f2 : Bool} {α : Type} {d : Kd α} {e : Nat} {base : Nat} {ok : Nat → Prop} {v : Value} {xs : List α} (h : IsS95 w0 W g f0 f1 f2) (ho : d.R e W base ok v xs) (ht : e ≠ 95) : some g ≠ v.ownBlock := by
  obtain ⟨hb, hg⟩ := h
  exact Kd.R_ne ho hb ht
theorem IsS95.apartQ {w0 W : World} {g : Nat} {f0 : ByteArray} {f1 : Int} {f2 : Bool} {α : Type} {d : Kd α} {e : Nat} {base : Nat} {ok : Nat → Prop} {v : Value} {xs : List α} (h : IsS95 w0 W g f0 f1 f2) (ho : d.Q e W base ok v xs) (ht : ∀ q, q ∈ e :: d.E → q ≠ 95) : d.Q e W base (fun k => ok k ∧ k ≠ g) v xs := by
  obtain ⟨hb, hg⟩ := h
  exact Kd.Q_types ho hb ht
theorem IsS95.own_neQ {w0 W : World} {g : Nat} {f0 : ByteArray} {f1 : Int} {f2 : Bool} {α : Type} {d : Kd α} {e : Nat} {base : Nat} {ok : Nat → Prop} {v : Value} {xs : List α} (h : IsS95 w0 W g f0 f1 f2) (ho : d.Q e W base ok v xs) (ht : e ≠ 95) : some g ≠ v.ownBlock := by
  obtain ⟨hb, hg⟩ := h
  exact Kd.Q_ne ho hb ht
theorem IsS95.apartS {w0 W : World} {g : Nat} {f0 : ByteArray} {f1 : Int} {f2 : Bool} {α : Type} {d : Kd α} {e : Nat} {base : Nat} {ok : Nat → Prop} {v : Value} {xs : List α} (h : IsS95 w0 W g f0 f1 f2) (ho : d.S e W base ok v xs) (ht : ∀ q, q ∈ e :: d.E → q ≠ 95) : d.S e W base (fun k => ok k ∧ k ≠ g) v xs := by
  obtain ⟨hb, hg⟩ := h
  exact Kd.S_types ho hb ht
theorem IsS95.own_neS {w0 W : World} {g : Nat} {f0 : ByteArray} {f1 : Int} {f2 : Bool} {α : Type} {d : Kd α} {e : Nat} {base : Nat} {ok : Nat → Prop} {v : Value} {xs : List α} (h : IsS95 w0 W g f0 f1 f2) (ho : d.S e W base ok v xs) (ht : e ≠ 95) : some g ≠ v.ownBlock := by
  obtain ⟨hb, hg⟩ := h
  exact Kd.S_ne ho hb ht
theorem IsS95.lt {w0 W : World} {g : Nat} {f0 : ByteArray} {f1 : Int} {f2 : Bool} (h : IsS95 w0 W g f0 f1 f2) : g < W.heap.size := by
  obtain ⟨hb, hg⟩ := h
  exact blk_lt hb
theorem IsS95.ge {w0 W : World} {g : Nat} {f0 : ByteArray} {f1 : Int} {f2 : Bool} (h : IsS95 w0 W g f0 f1 f2) : w0.heap.size ≤ g := by
  obtain ⟨hb, hg⟩ := h
  exact hg
theorem IsS95.ne_blk {w0 W : World} {g : Nat} {f0 : ByteArray} {f1 : Int} {f2 : Bool} {a : Nat} {cs : Array Value} {t : TypeId} {fr : Nat × Nat} (h : IsS95 w0 W g f0 f1 f2) (hb2 : W.heap[a]? = some (.cells cs t fr)) (ht : t ≠ 95) : g ≠ a := by
  obtain ⟨hb, hg⟩ := h
  rintro rfl
  rw [hb] at hb2
  injection hb2 with hb2
  injection hb2 with _ ht2
  exact ht ht2.symm
theorem IsS95.far {w0 W : World} {g : Nat} {f0 : ByteArray} {f1 : Int} {f2 : Bool} {p : Addr} (h : IsS95 w0 W g f0 f1 f2) (hne : g ≠ p.block) (u : Value) : IsS95 w0 (W.setCell p u) g f0 f1 f2 := by
  obtain ⟨hb, hg⟩ := h
  exact ⟨blk_far hb hne u, hg⟩
theorem cellS95_0 {W : World} {g : Nat} {f0 : ByteArray} {f1 : Int} {f2 : Bool} (h : W.heap[g]? = some (.cells #[.string f0, .int .i64 f1, .bool f2] 95 (0, 0))) : W.cell? ⟨g, 0, none⟩ = some (.string f0) := (blk_cell h 0).trans rfl
theorem IsS95.set_0 {w0 W : World} {g : Nat} {f0 : ByteArray} {f1 : Int} {f2 : Bool} (h : IsS95 w0 W g f0 f1 f2) (x : ByteArray) : IsS95 w0 (W.setCell ⟨g, 0, none⟩ (.string x)) g x f1 f2 := by
  obtain ⟨hb, hg⟩ := h
  exact ⟨by simpa using blk_set hb 0 (.string x), hg⟩
theorem cellS95_1 {W : World} {g : Nat} {f0 : ByteArray} {f1 : Int} {f2 : Bool} (h : W.heap[g]? = some (.cells #[.string f0, .int .i64 f1, .bool f2] 95 (0, 0))) : W.cell? ⟨g, 1, none⟩ = some (.int .i64 f1) := (blk_cell h 1).trans rfl
theorem IsS95.set_1 {w0 W : World} {g : Nat} {f0 : ByteArray} {f1 : Int} {f2 : Bool} (h : IsS95 w0 W g f0 f1 f2) (x : Int) : IsS95 w0 (W.setCell ⟨g, 1, none⟩ (.int .i64 x)) g f0 x f2 := by
  obtain ⟨hb, hg⟩ := h
  exact ⟨by simpa using blk_set hb 1 (.int .i64 x), hg⟩
theorem cellS95_2 {W : World} {g : Nat} {f0 : ByteArray} {f1 : Int} {f2 : Bool} (h : W.heap[g]? = some (.cells #[.string f0, .int .i64 f1, .bool f2] 95 (0, 0))) : W.cell? ⟨g, 2, none⟩ = some (.bool f2) := (blk_cell h 2).trans rfl
theorem IsS95.set_2 {w0 W : World} {g : Nat} {f0 : ByteArray} {f1 : Int} {f2 : Bool} (h : IsS95 w0 W g f0 f1 f2) (x : Bool) : IsS95 w0 (W.setCell ⟨g, 2, none⟩ (.bool x)) g f0 f1 x := by
  obtain ⟨hb, hg⟩ := h
  exact ⟨by simpa using blk_set hb 2 (.bool x), hg⟩
theorem IsS95.new (w0 W : World) (f0 : ByteArray) (f1 : Int) (f2 : Bool) (hB : Below w0.heap.size w0 W) : IsS95 w0 (W.alloc (.cells #[.string f0, .int .i64 f1, .bool f2] 95)) W.heap.size f0 f1 f2 := ⟨by simpa using heap_alloc_new W _, hB.size⟩

/-! ### octet_New: function 32 -/
def octet_New.f (a0 : ByteArray) : Option (ByteArray × Int × Bool) := some (a0, (a0.size : Int), true)
set_option maxHeartbeats 8000000 in
set_option maxRecDepth 100000 in
theorem octet_New.calls (a0 : ByteArray) (r1 : ByteArray) (r2 : Int) (r3 : Bool) (w0 w : World) (hB : Below w0.heap.size w0 w) (h : octet_New.f a0 = some (r1, r2, r3)) :
    Calls Try.prog 32 #[.string a0] w fun e w' => ∃ g_ : Nat, e = .returned (.pointer (some ⟨g_, 0, none⟩)) ∧ IsS95 w0 w' g_ r1 r2 r3 ∧ Below w0.heap.size w0 w' ∧ Below w.heap.size w w' := by
  have hu95 := Try.underlying95
  have HBW := Aside0.mk (Below.refl w.heap.size w)
  have HW0 := Aside0.mk hB.size
  have HB := Aside0.mk hB
  clear hB
  have H : (some (a0, (a0.size : Int), true)) = some (r1, r2, r3) := h
  clear h
  simp only [Option.some.injEq, Prod.mk.injEq] at H
  obtain ⟨rfl, rfl, rfl⟩ := H
  go_enter Try.func32, Try.ntmps32
  go_wp2_with (first | ((with_reducible refine gate_dst (N := 7) rfl ?_); refine box_event ?hg (N := 7) ?hd (cs := #[.string a0, .int .i64 (a0.size : Int), .bool true]) (t := 95) ?hr ?_; (case hd => rfl); (case hg => rfl); (case hr => first | (go_simp; done) | (go_simp; rfl)); intro gb126 hg w2 hbox hb; have n0_ := Aside0.mk (below_step HBW.out hb); have n1_ := Aside0.mk (below_step (by repeat (first | (with_reducible first | exact HB.out | apply below_alloc | apply pw_below_drewN | apply below_drew1) | exact HB.out)) hb); have n2_ := Aside0.mk (hbox); have n3_ := Aside0.mk ((by rw [hg]; exact (below_size (by repeat (first | (with_reducible first | exact HBW.out | apply below_alloc | apply pw_below_drewN | apply below_drew1) | exact HBW.out))) : w.heap.size ≤ gb126)); have n4_ := Aside0.mk ((Nat.le_trans HW0.out (by rw [hg]; exact (below_size (by repeat (first | (with_reducible first | exact HBW.out | apply below_alloc | apply pw_below_drewN | apply below_drew1) | exact HBW.out))) : w.heap.size ≤ gb126) : w0.heap.size ≤ gb126)); clear HBW; clear HB; have HBW := n0_; have HB := n1_; have BK126 := n2_; have GW126 := n3_; have GE126 := n4_; clear n0_ n1_ n2_ n3_ n4_; clear hb hbox hg))
  go_ret
  exact ⟨_, rfl, (show IsS95 w0 _ gb126 a0 (a0.size : Int) true from ⟨by (with_reducible repeat (first | refine blk_drewN ?_ _ | refine blk_drew ?_ | refine blk_alloc ?_ _)); exact BK126.out, GE126.out⟩), by repeat (first | (with_reducible first | exact HB.out | apply below_alloc | apply pw_below_drewN | apply below_drew1 | refine below_set ?_ GE126.out) | exact HB.out), by repeat (first | (with_reducible first | exact HBW.out | apply below_alloc | apply pw_below_drewN | apply below_drew1 | refine below_set ?_ GW126.out) | exact HBW.out)⟩

/-! ### octet_Reader_Bad: function 41 -/
def octet_Reader_Bad.f (s0_0 : ByteArray) (s0_1 : Int) (s0_2 : Bool) : Option (Bool × ByteArray × Int × Bool) := some (!s0_2, s0_0, s0_1, s0_2)
set_option maxHeartbeats 8000000 in
set_option maxRecDepth 100000 in
theorem octet_Reader_Bad.calls (g : Nat) (s0_0 : ByteArray) (s0_1 : Int) (s0_2 : Bool) (r1 : Bool) (r2 : ByteArray) (r3 : Int) (r4 : Bool) (w0 w : World) (hI : IsS95 w0 w g s0_0 s0_1 s0_2) (hB : Below w0.heap.size w0 w) (h : octet_Reader_Bad.f s0_0 s0_1 s0_2 = some (r1, r2, r3, r4)) :
    Calls Try.prog 41 #[.pointer (some ⟨g, 0, none⟩)] w fun e w' => e = .returned (.bool r1) ∧ IsS95 w0 w' g r2 r3 r4 ∧ Below w0.heap.size w0 w' ∧ KeepBut w w' g none := by
  have HI0 := Aside0.mk hI
  have HK := Aside0.mk (KeepBut.refl w g none)
  have HL := Aside0.mk hB.size
  clear hI
  have HW0 := Aside0.mk hB.size
  have HB := Aside0.mk hB
  clear hB
  have H : (some (!s0_2, s0_0, s0_1, s0_2)) = some (r1, r2, r3, r4) := h
  clear h
  simp only [Option.some.injEq, Prod.mk.injEq] at H
  obtain ⟨rfl, rfl, rfl, rfl⟩ := H
  obtain ⟨HGz2, hgz2⟩ := HI0.out
  have hcz2_0 := cellS95_0 HGz2
  have hcz2_1 := cellS95_1 HGz2
  have hcz2_2 := cellS95_2 HGz2
  have hfz2_0 := blk_frozen HGz2 0
  have hfz2_1 := blk_frozen HGz2 1
  have hfz2_2 := blk_frozen HGz2 2
  clear HGz2 hgz2
  go_enter Try.func41, Try.ntmps41
  go_wp2
  go_ret
  exact ⟨by first | rfl | (simp [errW_none, errW_some] <;> rfl) | (simp [*, errW_none, errW_some] <;> rfl), by repeat (first | (with_reducible first | exact HI0.out | apply IsS95.alloc | apply IsS95.drewN | apply IsS95.drew | apply IsS95.set_0 | apply IsS95.set_1 | apply IsS95.set_2) | exact HI0.out), by repeat (first | (with_reducible first | exact HB.out | apply below_alloc | apply pw_below_drewN | apply below_drew1 | refine below_set ?_ (IsS95.ge HI0.out)) | exact HB.out), by repeat (first | (with_reducible first | exact HK.out | apply KeepBut.set_ | apply keep_drewN | apply keep_drew | apply keep_alloc) | exact HK.out)⟩

/-! ### octet_Reader_Text: function 50 -/
def octet_Reader_Text.f (s0_0 : ByteArray) (s0_1 : Int) (s0_2 : Bool) (a1 : Int) : Option (ByteArray × ByteArray × Int × Bool) := (octet_Reader_Bad.f s0_0 s0_1 s0_2).bind fun bt127 => (if bt127.1 = true then (some ((⟨#[]⟩ : ByteArray), bt127.2.1, bt127.2.2.1, bt127.2.2.2)) else (if a1 < 0 then (some ((⟨#[]⟩ : ByteArray), bt127.2.1, bt127.2.2.1, false)) else (if a1 > (bt127.2.1.size : Int) then (some ((⟨#[]⟩ : ByteArray), bt127.2.1, bt127.2.2.1, false)) else (if 0 ≤ a1 then (if a1 ≤ (bt127.2.1.size : Int) then (some (bt127.2.1.extract 0 (a1 : Int).toNat, bt127.2.1.extract (a1 : Int).toNat bt127.2.1.size, bt127.2.2.1, bt127.2.2.2)) else (none)) else (none)))))
set_option maxHeartbeats 8000000 in
set_option maxRecDepth 100000 in
theorem octet_Reader_Text.calls (g : Nat) (s0_0 : ByteArray) (s0_1 : Int) (s0_2 : Bool) (a1 : Int) (r1 : ByteArray) (r2 : ByteArray) (r3 : Int) (r4 : Bool) (w0 w : World) (hI : IsS95 w0 w g s0_0 s0_1 s0_2) (hB : Below w0.heap.size w0 w) (h : octet_Reader_Text.f s0_0 s0_1 s0_2 a1 = some (r1, r2, r3, r4)) :
    Calls Try.prog 50 #[.pointer (some ⟨g, 0, none⟩), .int .i64 a1] w fun e w' => e = .returned (.string r1) ∧ IsS95 w0 w' g r2 r3 r4 ∧ Below w0.heap.size w0 w' ∧ KeepBut w w' g none := by
  have HI0 := Aside0.mk hI
  have HK := Aside0.mk (KeepBut.refl w g none)
  have HL := Aside0.mk hB.size
  clear hI
  have HW0 := Aside0.mk hB.size
  have HB := Aside0.mk hB
  clear hB
  have H : ((octet_Reader_Bad.f s0_0 s0_1 s0_2).bind fun bt127 => (if bt127.1 = true then (some ((⟨#[]⟩ : ByteArray), bt127.2.1, bt127.2.2.1, bt127.2.2.2)) else (if a1 < 0 then (some ((⟨#[]⟩ : ByteArray), bt127.2.1, bt127.2.2.1, false)) else (if a1 > (bt127.2.1.size : Int) then (some ((⟨#[]⟩ : ByteArray), bt127.2.1, bt127.2.2.1, false)) else (if 0 ≤ a1 then (if a1 ≤ (bt127.2.1.size : Int) then (some (bt127.2.1.extract 0 (a1 : Int).toNat, bt127.2.1.extract (a1 : Int).toNat bt127.2.1.size, bt127.2.2.1, bt127.2.2.2)) else (none)) else (none)))))) = some (r1, r2, r3, r4) := h
  clear h
  replace H := Option.bind_eq_some_iff.mp H
  obtain ⟨⟨t127, t128, t129, t130⟩, A30, H⟩ := H
  replace H : (if t127 = true then (some ((⟨#[]⟩ : ByteArray), t128, t129, t130)) else (if a1 < 0 then (some ((⟨#[]⟩ : ByteArray), t128, t129, false)) else (if a1 > (t128.size : Int) then (some ((⟨#[]⟩ : ByteArray), t128, t129, false)) else (if 0 ≤ a1 then (if a1 ≤ (t128.size : Int) then (some (t128.extract 0 (a1 : Int).toNat, t128.extract (a1 : Int).toNat t128.size, t129, t130)) else (none)) else (none))))) = some (r1, r2, r3, r4) := H
  have A3 := Aside0.mk A30
  clear A30
  by_cases c4 : t127 = true
  · subst c4
    have H1 : (some ((⟨#[]⟩ : ByteArray), t128, t129, t130)) = some (r1, r2, r3, r4) := by rw [if_pos rfl] at H; exact H
    clear H
    have H := H1
    clear H1
    simp only [Option.some.injEq, Prod.mk.injEq] at H
    obtain ⟨rfl, rfl, rfl, rfl⟩ := H
    go_enter Try.func50, Try.ntmps50
    go_wp2_with (first | ((with_reducible refine gate_callee (f := 41) rfl ?_); refine goesL_ (some 7) rfl rfl Try.func41 (by kernel_rfl) rfl #[.pointer (some ⟨g, 0, none⟩)] rfl (by (try simp only [List.map_toArray, List.map_cons, List.map_nil]); first | done | rfl | (simp only [List.length_drop, List.length_take]; rfl)) ?_; (with_reducible refine (octet_Reader_Bad.calls g s0_0 s0_1 s0_2 true t128 t129 t130 w0 _ ?side1 ?side2 A3.out).mono ?_); (case side1 => repeat (first | (with_reducible first | exact HI0.out | apply IsS95.alloc | apply IsS95.drewN | apply IsS95.drew | apply IsS95.set_0 | apply IsS95.set_1 | apply IsS95.set_2) | exact HI0.out)); (case side2 => repeat (first | (with_reducible first | exact HB.out | apply below_alloc | apply pw_below_drewN | apply below_drew1 | refine below_set ?_ (IsS95.ge HI0.out)) | exact HB.out)); rintro e w5 ⟨rfl, hi, hb, hk⟩; refine ⟨_, rfl, ?_⟩; have n0_ := Aside0.mk (KeepBut.trans (by repeat (first | (with_reducible first | exact HK.out | apply KeepBut.set_ | apply keep_drewN | apply keep_drew | apply keep_alloc) | exact HK.out)) hk (.inl rfl)); have n1_ := Aside0.mk (hb); have n2_ := Aside0.mk (hi); clear HK; clear HB; clear HI0; have HK := n0_; have HB := n1_; have HI0 := n2_; clear n0_ n1_ n2_; (try clear hb); (try clear hb2); (try clear hk); (try clear hi)))
    go_ret
    exact ⟨by first | rfl | (simp [errW_none, errW_some] <;> rfl) | (simp [*, errW_none, errW_some] <;> rfl), by repeat (first | (with_reducible first | exact HI0.out | apply IsS95.alloc | apply IsS95.drewN | apply IsS95.drew | apply IsS95.set_0 | apply IsS95.set_1 | apply IsS95.set_2) | exact HI0.out), by repeat (first | (with_reducible first | exact HB.out | apply below_alloc | apply pw_below_drewN | apply below_drew1 | refine below_set ?_ (IsS95.ge HI0.out)) | exact HB.out), by repeat (first | (with_reducible first | exact HK.out | apply KeepBut.set_ | apply keep_drewN | apply keep_drew | apply keep_alloc) | exact HK.out)⟩
  · replace c4 := Bool.eq_false_iff.mpr c4
    subst c4
    have H1 : (if a1 < 0 then (some ((⟨#[]⟩ : ByteArray), t128, t129, false)) else (if a1 > (t128.size : Int) then (some ((⟨#[]⟩ : ByteArray), t128, t129, false)) else (if 0 ≤ a1 then (if a1 ≤ (t128.size : Int) then (some (t128.extract 0 (a1 : Int).toNat, t128.extract (a1 : Int).toNat t128.size, t129, t130)) else (none)) else (none)))) = some (r1, r2, r3, r4) := by rw [if_neg (show ¬ (false = true) by decide)] at H; exact H
    clear H
    have H := H1
    clear H1
    by_cases c6 : a1 < 0
    · rw [if_pos c6] at H
      have c6b0 : decide (a1 < 0) = true := decide_eq_true c6
      clear c6
      simp only [Option.some.injEq, Prod.mk.injEq] at H
      obtain ⟨rfl, rfl, rfl, rfl⟩ := H
      go_enter Try.func50, Try.ntmps50
      go_wp2_with (first | ((with_reducible refine gate_callee (f := 41) rfl ?_); refine goesL_ (some 7) rfl rfl Try.func41 (by kernel_rfl) rfl #[.pointer (some ⟨g, 0, none⟩)] rfl (by (try simp only [List.map_toArray, List.map_cons, List.map_nil]); first | done | rfl | (simp only [List.length_drop, List.length_take]; rfl)) ?_; (with_reducible refine (octet_Reader_Bad.calls g s0_0 s0_1 s0_2 false t128 t129 t130 w0 _ ?side1 ?side2 A3.out).mono ?_); (case side1 => repeat (first | (with_reducible first | exact HI0.out | apply IsS95.alloc | apply IsS95.drewN | apply IsS95.drew | apply IsS95.set_0 | apply IsS95.set_1 | apply IsS95.set_2) | exact HI0.out)); (case side2 => repeat (first | (with_reducible first | exact HB.out | apply below_alloc | apply pw_below_drewN | apply below_drew1 | refine below_set ?_ (IsS95.ge HI0.out)) | exact HB.out)); rintro e w7 ⟨rfl, hi, hb, hk⟩; refine ⟨_, rfl, ?_⟩; have n0_ := Aside0.mk (KeepBut.trans (by repeat (first | (with_reducible first | exact HK.out | apply KeepBut.set_ | apply keep_drewN | apply keep_drew | apply keep_alloc) | exact HK.out)) hk (.inl rfl)); have n1_ := Aside0.mk (hb); have n2_ := Aside0.mk (hi); clear HK; clear HB; clear HI0; have HK := n0_; have HB := n1_; have HI0 := n2_; clear n0_ n1_ n2_; (try clear hb); (try clear hb2); (try clear hk); (try clear hi); obtain ⟨HGz8, hgz8⟩ := HI0.out; have hcz8_0 := cellS95_0 HGz8; have hcz8_1 := cellS95_1 HGz8; have hcz8_2 := cellS95_2 HGz8; have hfz8_0 := blk_frozen HGz8 0; have hfz8_1 := blk_frozen HGz8 1; have hfz8_2 := blk_frozen HGz8 2; clear HGz8 hgz8))
      go_ret
      exact ⟨by first | rfl | (simp [errW_none, errW_some] <;> rfl) | (simp [*, errW_none, errW_some] <;> rfl), by repeat (first | (with_reducible first | exact HI0.out | apply IsS95.alloc | apply IsS95.drewN | apply IsS95.drew | apply IsS95.set_0 | apply IsS95.set_1 | apply IsS95.set_2) | exact HI0.out), by repeat (first | (with_reducible first | exact HB.out | apply below_alloc | apply pw_below_drewN | apply below_drew1 | refine below_set ?_ (IsS95.ge HI0.out)) | exact HB.out), by repeat (first | (with_reducible first | exact HK.out | apply KeepBut.set_ | apply keep_drewN | apply keep_drew | apply keep_alloc) | exact HK.out)⟩
    · rw [if_neg c6] at H
      have c6b0 : decide (a1 < 0) = false := decide_eq_false c6
      clear c6
      by_cases c9 : a1 > (t128.size : Int)
      · rw [if_pos c9] at H
        have c9b0 : decide ((t128.size : Int) < a1) = true := decide_eq_true c9
        clear c9
        simp only [Option.some.injEq, Prod.mk.injEq] at H
        obtain ⟨rfl, rfl, rfl, rfl⟩ := H
        go_enter Try.func50, Try.ntmps50
        go_wp2_with (first | ((with_reducible refine gate_callee (f := 41) rfl ?_); refine goesL_ (some 7) rfl rfl Try.func41 (by kernel_rfl) rfl #[.pointer (some ⟨g, 0, none⟩)] rfl (by (try simp only [List.map_toArray, List.map_cons, List.map_nil]); first | done | rfl | (simp only [List.length_drop, List.length_take]; rfl)) ?_; (with_reducible refine (octet_Reader_Bad.calls g s0_0 s0_1 s0_2 false t128 t129 t130 w0 _ ?side1 ?side2 A3.out).mono ?_); (case side1 => repeat (first | (with_reducible first | exact HI0.out | apply IsS95.alloc | apply IsS95.drewN | apply IsS95.drew | apply IsS95.set_0 | apply IsS95.set_1 | apply IsS95.set_2) | exact HI0.out)); (case side2 => repeat (first | (with_reducible first | exact HB.out | apply below_alloc | apply pw_below_drewN | apply below_drew1 | refine below_set ?_ (IsS95.ge HI0.out)) | exact HB.out)); rintro e w10 ⟨rfl, hi, hb, hk⟩; refine ⟨_, rfl, ?_⟩; have n0_ := Aside0.mk (KeepBut.trans (by repeat (first | (with_reducible first | exact HK.out | apply KeepBut.set_ | apply keep_drewN | apply keep_drew | apply keep_alloc) | exact HK.out)) hk (.inl rfl)); have n1_ := Aside0.mk (hb); have n2_ := Aside0.mk (hi); clear HK; clear HB; clear HI0; have HK := n0_; have HB := n1_; have HI0 := n2_; clear n0_ n1_ n2_; (try clear hb); (try clear hb2); (try clear hk); (try clear hi); obtain ⟨HGz11, hgz11⟩ := HI0.out; have hcz11_0 := cellS95_0 HGz11; have hcz11_1 := cellS95_1 HGz11; have hcz11_2 := cellS95_2 HGz11; have hfz11_0 := blk_frozen HGz11 0; have hfz11_1 := blk_frozen HGz11 1; have hfz11_2 := blk_frozen HGz11 2; clear HGz11 hgz11))
        go_ret
        exact ⟨by first | rfl | (simp [errW_none, errW_some] <;> rfl) | (simp [*, errW_none, errW_some] <;> rfl), by repeat (first | (with_reducible first | exact HI0.out | apply IsS95.alloc | apply IsS95.drewN | apply IsS95.drew | apply IsS95.set_0 | apply IsS95.set_1 | apply IsS95.set_2) | exact HI0.out), by repeat (first | (with_reducible first | exact HB.out | apply below_alloc | apply pw_below_drewN | apply below_drew1 | refine below_set ?_ (IsS95.ge HI0.out)) | exact HB.out), by repeat (first | (with_reducible first | exact HK.out | apply KeepBut.set_ | apply keep_drewN | apply keep_drew | apply keep_alloc) | exact HK.out)⟩
      · rw [if_neg c9] at H
        have c9b0 : decide ((t128.size : Int) < a1) = false := decide_eq_false c9
        clear c9
        by_cases c12 : 0 ≤ a1
        · rw [if_pos c12] at H
          have c12b0 := eq_true c12
          have c12b1 : decide (0 ≤ a1) = true := decide_eq_true c12
          clear c12
          by_cases c13 : a1 ≤ (t128.size : Int)
          · rw [if_pos c13] at H
            have c13b0 := eq_true c13
            have c13b1 : decide (a1 ≤ (t128.size : Int)) = true := decide_eq_true c13
            clear c13
            have c14b0 := eq_true (of_decide_eq_true (by first | (with_reducible assumption) | assumption) : 0 ≤ a1)
            have c15b0 := eq_true (of_decide_eq_true (by first | (with_reducible assumption) | assumption) : a1 ≤ (t128.size : Int))
            simp only [Option.some.injEq, Prod.mk.injEq] at H
            obtain ⟨rfl, rfl, rfl, rfl⟩ := H
            go_enter Try.func50, Try.ntmps50
            go_wp2_with (first | ((with_reducible refine gate_callee (f := 41) rfl ?_); refine goesL_ (some 7) rfl rfl Try.func41 (by kernel_rfl) rfl #[.pointer (some ⟨g, 0, none⟩)] rfl (by (try simp only [List.map_toArray, List.map_cons, List.map_nil]); first | done | rfl | (simp only [List.length_drop, List.length_take]; rfl)) ?_; (with_reducible refine (octet_Reader_Bad.calls g s0_0 s0_1 s0_2 false t128 t129 t130 w0 _ ?side1 ?side2 A3.out).mono ?_); (case side1 => repeat (first | (with_reducible first | exact HI0.out | apply IsS95.alloc | apply IsS95.drewN | apply IsS95.drew | apply IsS95.set_0 | apply IsS95.set_1 | apply IsS95.set_2) | exact HI0.out)); (case side2 => repeat (first | (with_reducible first | exact HB.out | apply below_alloc | apply pw_below_drewN | apply below_drew1 | refine below_set ?_ (IsS95.ge HI0.out)) | exact HB.out)); rintro e w16 ⟨rfl, hi, hb, hk⟩; refine ⟨_, rfl, ?_⟩; have n0_ := Aside0.mk (KeepBut.trans (by repeat (first | (with_reducible first | exact HK.out | apply KeepBut.set_ | apply keep_drewN | apply keep_drew | apply keep_alloc) | exact HK.out)) hk (.inl rfl)); have n1_ := Aside0.mk (hb); have n2_ := Aside0.mk (hi); clear HK; clear HB; clear HI0; have HK := n0_; have HB := n1_; have HI0 := n2_; clear n0_ n1_ n2_; (try clear hb); (try clear hb2); (try clear hk); (try clear hi); obtain ⟨HGz17, hgz17⟩ := HI0.out; have hcz17_0 := cellS95_0 HGz17; have hcz17_1 := cellS95_1 HGz17; have hcz17_2 := cellS95_2 HGz17; have hfz17_0 := blk_frozen HGz17 0; have hfz17_1 := blk_frozen HGz17 1; have hfz17_2 := blk_frozen HGz17 2; clear HGz17 hgz17))
            go_ret
            exact ⟨by first | rfl | (simp [errW_none, errW_some] <;> rfl) | (simp [*, errW_none, errW_some] <;> rfl), by repeat (first | (with_reducible first | exact HI0.out | apply IsS95.alloc | apply IsS95.drewN | apply IsS95.drew | apply IsS95.set_0 | apply IsS95.set_1 | apply IsS95.set_2) | exact HI0.out), by repeat (first | (with_reducible first | exact HB.out | apply below_alloc | apply pw_below_drewN | apply below_drew1 | refine below_set ?_ (IsS95.ge HI0.out)) | exact HB.out), by repeat (first | (with_reducible first | exact HK.out | apply KeepBut.set_ | apply keep_drewN | apply keep_drew | apply keep_alloc) | exact HK.out)⟩
          · rw [if_neg c13] at H
            exact absurd H (by simp)
        · rw [if_neg c12] at H
          exact absurd H (by simp)

/-! ### octet_Reader_Num: function 51 -/
/-- A row of bytes, cell by cell. -/
def OctRow (w : World) (g : Nat) (l : List UInt8) : Prop := ∀ j, j < l.length → w.cell? ⟨g, j, none⟩ = some (.int .u8 (l.getD j 0).toNat)
theorem OctRow.below {w w1 : World} {g : Nat} {l : List UInt8} (h : OctRow w g l) (hg : g < w.heap.size) (hb : Below w.heap.size w w1) : OctRow w1 g l :=
  fun j hj => (hb.cell (p := ⟨g, j, none⟩) hg).trans (h j hj)
theorem oct_conv (w : World) (s : ByteArray) : ∃ W1 cap, Sem.run Try.prog (Go.convert 9 38 (.string s)) w = .ok (.slice (some ⟨w.heap.size, 0, none⟩) s.size cap) W1 ∧
    OctRow W1 w.heap.size s.data.toList ∧ Below w.heap.size w W1 ∧ w.heap.size < W1.heap.size := by
  refine ⟨_, _, Lib.run_convert_string_bytes w 9 38 5 s Try.underlying9 Try.underlying38 Try.underlying5, ?_, ?_, ?_⟩
  · intro j hj
    exact Lib.bytesWorld_cell w 5 s j (by simpa using hj)
  · exact ⟨rfl, rfl, rfl, by rw [Lib.bytesWorld_size]; omega, fun i hi => Lib.bytesWorld_at_old w 5 s i hi⟩
  · rw [Lib.bytesWorld_size]; omega
/-- The number that octets tell, the highest first. -/
def beVal (l : List UInt8) : Nat := l.foldl (fun n b => n * 256 + b.toNat) 0
theorem beVal_snoc (l : List UInt8) (b : UInt8) : beVal (l ++ [b]) = beVal l * 256 + b.toNat := by simp [beVal]
theorem beVal_from (l : List UInt8) : ∀ n : Nat, l.foldl (fun n b => n * 256 + b.toNat) n < (n + 1) * 256 ^ l.length := by
  induction l with
  | nil => intro n; simp
  | cons b l ih =>
    intro n
    rw [List.foldl_cons]
    refine Nat.lt_of_lt_of_le (ih _) ?_
    rw [List.length_cons, Nat.pow_succ, Nat.mul_comm (256 ^ l.length) 256, ← Nat.mul_assoc]
    refine Nat.mul_le_mul_right _ ?_
    have := b.toNat_lt
    omega
theorem beVal_lt (l : List UInt8) : beVal l < 256 ^ l.length := by
  have := beVal_from l 0
  rw [Nat.zero_add, Nat.one_mul] at this
  exact this
theorem beVal_lt7 (l : List UInt8) (h : l.length ≤ 6) : beVal l < 281474976710656 := Nat.lt_of_lt_of_le (beVal_lt l) (Nat.le_trans (Nat.pow_le_pow_right (by decide) h) (by decide))
theorem or_byte (n b : Nat) (hn : n < 281474976710656) (hb : b < 256) : Go.bits .or .i64 ((n : Int) * 256) (b : Int) = ((n * 256 + b : Nat) : Int) := by
  have e : (n : Int) * 256 = ((n * 256 : Nat) : Int) := by simp
  have ha' : (n * 256) % 2 ^ IntKind.i64.bits = n * 256 := Nat.mod_eq_of_lt (show n * 256 < 18446744073709551616 by omega)
  have hb' : b % 2 ^ IntKind.i64.bits = b := Nat.mod_eq_of_lt (show b < 18446744073709551616 by omega)
  have hor : (n * 256) ||| b = n * 256 + b := by
    have := Nat.two_pow_add_eq_or_of_lt (i := 8) (b := b) hb n
    rw [Nat.mul_comm n 256]; exact this.symm
  rw [e]
  simp only [Go.bits, BitVec.ofInt_natCast, BitVec.toNat_or, BitVec.toNat_ofNat, ha', hb', hor]
  rw [i64_w]; unfold wrap64; omega
theorem oct_text_size (s0_0 : ByteArray) (s0_1 : Int) (s0_2 : Bool) (a1 : Int) (r1 r2 : ByteArray) (r3 : Int) (r4 : Bool) (h : octet_Reader_Text.f s0_0 s0_1 s0_2 a1 = some (r1, r2, r3, r4)) : r1.size ≤ a1.toNat := by
  unfold octet_Reader_Text.f octet_Reader_Bad.f at h
  rw [Option.bind_some] at h
  repeat' split at h
  all_goals first | (cases h; done) | (simp only [Option.some.injEq, Prod.mk.injEq] at h; obtain ⟨rfl, _, _, _⟩ := h; first | (rw [ByteArray.size_extract]; omega) | exact Nat.zero_le _)
def octet_Reader_Num.f (s0_0 : ByteArray) (s0_1 : Int) (s0_2 : Bool) (a1 : Int) : Option (Int × ByteArray × Int × Bool) :=
  (octet_Reader_Text.f s0_0 s0_1 s0_2 (if a1 < 1 ∨ 7 < a1 then -1 else a1)).bind fun t => some (((beVal t.1.data.toList : Nat) : Int), t.2.1, t.2.2.1, t.2.2.2)
set_option maxHeartbeats 2000000 in
set_option maxRecDepth 100000 in
theorem octet_Reader_Num.calls (g : Nat) (s0_0 : ByteArray) (s0_1 : Int) (s0_2 : Bool) (a1 : Int) (r1 : Int) (r2 : ByteArray) (r3 : Int) (r4 : Bool) (w0 w : World) (hI : IsS95 w0 w g s0_0 s0_1 s0_2) (hB : Below w0.heap.size w0 w) (h : octet_Reader_Num.f s0_0 s0_1 s0_2 a1 = some (r1, r2, r3, r4)) :
    Calls Try.prog 51 #[.pointer (some ⟨g, 0, none⟩), .int .i64 a1] w fun e w' => e = .returned (.int .i64 r1) ∧ IsS95 w0 w' g r2 r3 r4 ∧ Below w0.heap.size w0 w' ∧ KeepBut w w' g none := by
  obtain ⟨⟨t, q2, q3, q4⟩, hT, h⟩ := Option.bind_eq_some_iff.1 h
  simp only [Option.some.injEq, Prod.mk.injEq] at h
  obtain ⟨rfl, rfl, rfl, rfl⟩ := h
  have hts := oct_text_size _ _ _ _ _ _ _ _ hT
  have ht7 : t.size ≤ 7 := by
    split at hts <;> omega
  clear hts
  have hcase : (a1 < 1 ∧ octet_Reader_Text.f s0_0 s0_1 s0_2 (-1) = some (t, q2, q3, q4)) ∨ (¬ a1 < 1 ∧ 7 < a1 ∧ octet_Reader_Text.f s0_0 s0_1 s0_2 (-1) = some (t, q2, q3, q4)) ∨ (¬ a1 < 1 ∧ ¬ 7 < a1 ∧ octet_Reader_Text.f s0_0 s0_1 s0_2 a1 = some (t, q2, q3, q4)) := by
    by_cases h1 : a1 < 1
    · rw [if_pos (.inl h1)] at hT; exact .inl ⟨h1, hT⟩
    · by_cases h2 : 7 < a1
      · rw [if_pos (.inr h2)] at hT; exact .inr (.inl ⟨h1, h2, hT⟩)
      · rw [if_neg (by omega)] at hT; exact .inr (.inr ⟨h1, h2, hT⟩)
  clear hT
  have HI := Aside0.mk hI
  have HB := Aside0.mk hB
  clear hI hB
  rcases hcase with ⟨h1, hT⟩ | ⟨h1, h2, hT⟩ | ⟨h1, h2, hT⟩
  all_goals
    have HT := Aside0.mk hT
    clear hT
    go_enter Try.func51, Try.ntmps51
    go_wp2_with (go_at_call 50; refine (octet_Reader_Text.calls g s0_0 s0_1 s0_2 _ t q2 q3 q4 w0 _ HI.out HB.out (by exact HT.out)).mono ?_; rintro e w1 ⟨rfl, hI1, hB1, hK1⟩; obtain ⟨W1, cap, hcv, hrow, hBW, hg⟩ := oct_conv w1 t)
    have HI1 := Aside0.mk hI1
    have HB1 := Aside0.mk hB1
    have HK1 := Aside0.mk hK1
    have HR := Aside0.mk hrow
    have HBW := Aside0.mk hBW
    clear hI1 hB1 hK1 hrow hBW hcv
    go_loopw [19, 5] (fun v n wr => ∃ (i m q : Nat), i ≤ t.size ∧ v = .int .i64 i ∧ n = .int .i64 m ∧ Hid (m = beVal (t.data.toList.take i)) ∧ wr = W1.drewN q) (fun v _ _ => t.size - (intOf v).toNat)
    case atStart => exact ⟨0, 0, 0, Nat.zero_le _, rfl, rfl, Lib.hid (by simp [beVal]), rfl⟩
    case round =>
      obtain ⟨i, m, q, hi, rfl, rfl, hm, rfl⟩ := hrel
      by_cases hlt : i < t.size
      · have hm48 : m < 281474976710656 := by rw [hm.out]; exact beVal_lt7 _ (by rw [List.length_take]; omega)
        have hcl := HR.out i (by simpa using hlt)
        obtain ⟨c, hc⟩ : ∃ c, c = (t.data.toList.getD i 0).toNat := ⟨_, rfl⟩
        rw [← hc] at hcl
        have hc256 : c < 256 := by rw [hc]; exact UInt8.toNat_lt _
        have HC := Lib.hid hc
        clear hc
        have hor := or_byte m c hm48 hc256
        go_wp2
        go_roundw
        case rel =>
          refine ⟨i + 1, m * 256 + c, q, by omega, by go_num, by rfl, ?_, rfl⟩
          refine Lib.hid ?_
          have hlt' : i < t.data.toList.length := by simpa using hlt
          rw [List.take_succ_eq_append_getElem hlt', beVal_snoc, ← hm.out, HC.out]
          rw [List.getD_eq_getElem?_getD, List.getElem?_eq_getElem hlt']; rfl
        case measure => simp [intOf]; omega
      · obtain rfl : i = t.size := by omega
        go_wp2
        go_ret
        refine ⟨?_, ?_, ?_, ?_⟩
        · rw [hm.out, List.take_of_length_le (by simp)]; rfl
        · exact (HI1.out.below HBW.out).drewN q
        · exact pw_below_drewN (below_step HB1.out HBW.out) q
        · exact keep_drewN (HK1.out.trans (KeepBut.of_below HBW.out g none) (.inl rfl)) q

end Go.Proofs.Ythdlikiakegekaa.S
