/- The walk of HeaderBack: a header's octets, some bits turned. -/
import Derived.Test.YthdlikiakegekaaHx5
import Derived.Test.YthdlikiakegekaaCrcX
import Derived.RegionTactic
import Derived.Lib.Hide
import Derived.WideShapes
set_option linter.unusedVariables false
set_option linter.unusedSimpArgs false
namespace Go.Proofs.Ythdlikiakegekaa.S
open Go.RowKit Go.Proofs.YthdlikiakegekaaW.PrintWords Go.Proofs.YthdlikiakegekaaW.PrintLast Go.Proofs.YthdlikiakegekaaW.PrintMore
section
open CrcLem CrcW HdrW
/-- Is a number another than 0? -/
def CrcTurnedR.nz (n : Nat) : Bool := n != 0
/-- A row of bytes, cell by cell, none of them frozen. -/
def CrcTurnedR.Row (w : World) (g n : Nat) (l : List UInt8) : Prop := ∀ j, j < n → w.cell? ⟨g, j, none⟩ = some (.int .u8 (l.getD j 0).toNat) ∧ w.frozen? ⟨g, j, none⟩ = false
theorem CrcTurnedR.Row.set {w : World} {g n : Nat} {l : List UInt8} (h : CrcTurnedR.Row w g n l) (i x : Nat) (hi : i < n) (hl : l.length = n) (hx : x < 256) :
    CrcTurnedR.Row (w.setCell ⟨g, i, none⟩ (.int .u8 (x : Int))) g n (l.set i (UInt8.ofNat x)) := by
  intro j hj
  rw [World.frozen?_setCell]
  refine ⟨?_, (h j hj).2⟩
  by_cases e : i = j
  · subst e
    rw [World.cell?_setCell_same (h := (h i hi).1)]
    have hxx : (UInt8.ofNat x).toNat = x := by simp; omega
    simp [List.getD, hl, hi, hxx]
  · rw [World.cell?_setCell_other (h := by intro h'; exact e (by injection h')), (h j hj).1]
    simp [List.getD, e]
theorem CrcTurnedR.Row.below {w w1 : World} {g n : Nat} {l : List UInt8} (h : CrcTurnedR.Row w g n l) (hg : g < w.heap.size) (hb : Below w.heap.size w w1) : CrcTurnedR.Row w1 g n l :=
  fun j hj => ⟨(hb.cell (p := ⟨g, j, none⟩) hg).trans (h j hj).1, (hb.frozen (p := ⟨g, j, none⟩) hg).trans (h j hj).2⟩
theorem CrcTurnedR.nz_step (b k : Nat) (h : b / 2 ^ k % 2 = 1) : CrcTurnedR.nz (b % 2 ^ (k + 1)) = true := by
  unfold CrcTurnedR.nz
  rw [mod_bit, if_pos h]
  have := Nat.one_le_two_pow (n := k)
  simp
theorem CrcTurnedR.num_step (l : List UInt8) (s : Nat) (F k b i j c p x : Nat) (hil : i < l.length) (hi : i = (F + k) / 8) (hj : j = (F + k) % 8) (hc : c = (l.getD i 0).toNat) (hp : p = 2 ^ j) (hx : x = c ^^^ p) (hx256 : x < 256)
    (hn : num l = s ^^^ 2 ^ F * (b % 2 ^ k)) (hb : b / 2 ^ k % 2 = 1) : num (l.set i (UInt8.ofNat x)) = s ^^^ 2 ^ F * (b % 2 ^ (k + 1)) := by
  rw [mod_bit, if_pos hb, low_bit _ _ (Nat.mod_lt _ (Nat.two_pow_pos k)), two_mul_xor, ← Nat.xor_assoc, ← hn, ← Nat.pow_add]
  have e : F + k = 8 * i + j := by omega
  rw [e]
  refine num_set l i j hil _ ?_
  have hxx : (UInt8.ofNat x).toNat = x := by simp; omega
  rw [hxx, hx, hc, hp]
  simp [List.getD, hil]
theorem CrcTurnedR.nums (l : List UInt8) : strOfNums (l.map fun c => (c.toNat : Int)) = ⟨l.toArray⟩ := by
  unfold strOfNums
  simp [List.map_map, Function.comp_def]
theorem CrcTurnedR.back {w : World} {g n cap : Nat} {l : List UInt8} (h : CrcTurnedR.Row w g n l) (hl : l.length = n) :
    Sem.run Try.prog (Go.convert 38 9 (.slice (some ⟨g, 0, none⟩) n cap)) w = .ok (.string ⟨l.toArray⟩) w := by
  have := run_convert_bytes_arg (P := Try.prog) w 38 5 Try.underlying38 Try.underlying5 g 0 n cap (l.map fun c => (c.toNat : Int)) (by simpa using hl)
    (fun i hi => by
      have := (h i hi).1
      rw [Nat.zero_add, this]
      simp [List.getD, hl, hi]) 9 Try.underlying9
  rw [CrcTurnedR.nums] at this
  exact this
theorem CrcTurnedR.idx (F k i j : Nat) (hi : i = (F + k) / 8) (hj : j = (F + k) % 8) (h : F + k ≤ 4800) :
    ∃ m : Nat, wrap64 ((F : Int) + (k : Int)) = (m : Int) ∧ (m : Int).tdiv 8 = (i : Int) ∧ wrap64 (i : Int) = (i : Int) ∧ (m : Int).tmod 8 = (j : Int) := by
  refine ⟨F + k, ?_, ?_, ?_, ?_⟩
  · unfold wrap64; omega
  · rw [Int.tdiv_eq_ediv_of_nonneg (by omega)]; omega
  · unfold wrap64; omega
  · rw [Int.tmod_eq_emod_of_nonneg (by omega)]; omega
theorem CrcTurnedR.conv (w : World) (s : ByteArray) : ∃ W1 cap, Sem.run Try.prog (Go.convert 9 38 (.string s)) w = .ok (.slice (some ⟨w.heap.size, 0, none⟩) s.size cap) W1 ∧
    CrcTurnedR.Row W1 w.heap.size s.size s.data.toList ∧ Below w.heap.size w W1 ∧ w.heap.size < W1.heap.size := by
  refine ⟨_, _, Lib.run_convert_string_bytes w 9 38 5 s Try.underlying9 Try.underlying38 Try.underlying5, ?_, ?_, ?_⟩
  · intro j hj
    refine ⟨Lib.bytesWorld_cell w 5 s j hj, ?_⟩
    unfold World.frozen?
    rw [Lib.bytesWorld_at_new]
    have : s.size ≤ (Lib.bytesCells w 5 s).size := by
      unfold Lib.bytesCells
      rw [Array.size_append, Array.size_map]
      exact Nat.le_add_right _ _
    simp; omega
  · exact ⟨rfl, rfl, rfl, by rw [Lib.bytesWorld_size]; omega, fun i hi => Lib.bytesWorld_at_old w 5 s i hi⟩
  · rw [Lib.bytesWorld_size]; omega
def HBk18.T18 : Bool × List (List Nat × List Nat) := (true, [([], []), ([], []), ([], []), ([1, 2], [1, 2]), ([3], [3]), ([], []), ([], []), ([], []), ([6, 7], [6, 7]), ([8], [8]), ([5, 9], [5, 9]), ([10], [10]), ([], []), ([], []), ([12, 13], [12, 13]), ([14], [14]), ([15], [15]), ([11, 16], [11, 16]), ([0, 4, 0, 1, 2, 3, 4, 5, 6, 7, 8, 9, 10, 11, 12, 13, 14, 15, 16, 17], [0, 4]), ([18, 17, 0, 1, 2, 3, 4, 5, 6, 7, 8, 9, 10, 11, 12, 13, 14, 15, 16, 17], [17, 18])])
def HBk18.B18 : List Nat := [0, 0, 0, 6, 14, 0, 0, 0, 192, 448, 992, 2016, 0, 0, 12288, 28672, 61440, 131040, 262143, 524287]
theorem HBk18.tab18 : rtab .any (opsOf Try.f5 18) = HBk18.T18 := by kernel_rfl
theorem HBk18.bits18 : waitsOk HBk18.T18.2 HBk18.B18 = true := by kernel_rfl
/- 0:move>100; 1:move>101; 2:move>102; 3:binOp>103; 4:binOp>104; 5:move>105; 6:move>106; 7:move>107; 8:binOp>108; 9:binOp>109; 10:indexAddr>110; 11:load>111; 12:move>112; 13:move>113; 14:binOp>114; 15:binOp>115; 16:binOp>116; 17:binOp>117; 18:indexAddr>118; 19:store>None -/
theorem addr_add_block (a : Addr) (i : Nat) : (a.add i).block = a.block := by unfold Addr.add; split <;> rfl
theorem C_keep {W W' : World} {A0 : Option Addr} {g : Nat} (h : Kd.C (Kd.int .u32) W A0 CrcX.crcTab.length CrcX.crcTab) (hk : KeepBut W W' g none) (hg : ∀ ad, A0 = some ad → ad.block ≠ g) : Kd.C (Kd.int .u32) W' A0 CrcX.crcTab.length CrcX.crcTab := Kd.C_keep (0 : Int) h hk (fun ad he _ => hg ad he)
/-- What is asked of the octets that come back. -/
def HBkLaw (P : List UInt8) (more : ByteArray) (bits : Nat) : Prop := ∀ (l : List UInt8) (F k : Nat), l.length = 25 → num l = num P ^^^ 2 ^ F * (bits % 2 ^ k) → (F + k ≤ 168 ∨ (168 ≤ F ∧ F + k ≤ 200)) → bits < 4294967296 →
  ∃ r1 r2 r3 r4 r5 r6 r7 r8 : Int, header_Get.f CrcX.crcTab (⟨l.toArray⟩ ++ more) = some (r1, r2, r3, r4, r5, r6, r7, r8) ∧ (r8 != 0) = CrcTurnedR.nz (bits % 2 ^ k)
set_option maxHeartbeats 4000000 in
set_option maxRecDepth 100000 in
theorem hbk_run (a0 a1 a2 a3 a4 a5 p : Int) (P : List UInt8) (S more : ByteArray) (hS : S = ⟨P.toArray⟩) (a bits : Nat) (w : World) (hP : P.length = 25) (hm : more.size ≤ 100) (ha : a < 65536) (hb : bits < 4294967296)
    (hR : splicerref29_Right.f a0 a1 a2 a3 a4 a5 p = some true) (hPut : header_Put.f CrcX.crcTab a0 a1 a2 a3 a4 a5 p = some (S, 0)) (hG : header_Get.f CrcX.crcTab (S ++ more) = some (a0, a1, a2, a3, a4, a5, p, 0)) (hL : HBkLaw P more bits) (hAw : splicerlaw29_awake.f = some true) :
    Calls Try.prog 5 #[.agg #[.int .i64 a0, .int .i64 a1, .int .i64 a2, .int .i64 a3, .int .i64 a4, .int .i64 a5], .int .i64 p, .string more, .int .u16 a, .int .u32 bits] w fun e w' => e = .returned (.bool true) ∧ Below w.heap.size w w' := by
  have hu := Try.underlying23
  have HL := Aside0.mk hL
  have HPut := Aside0.mk hPut
  have HGet := Aside0.mk hG
  have hSz : S.size = 25 := by rw [hS]; exact hP
  have HS := Lib.hid hS
  clear hL hPut hG hS
  have d1 : decide ((100 : Int) < (more.size : Int)) = false := decide_eq_false (by omega)
  have hcat : (9223372036854775807 < S.size + more.size) = False := eq_false (by omega)
  have hcat2 : (9223372036854775807 < 25 + more.size) = False := eq_false (by omega)
  go_enter Try.func5, Try.ntmps5
  go_upto_region 3 with (go_at_call 16; refine (splicerref29_Right.calls _ _ _ _ _ _ _ _ _ hR).mono ?_; rintro e w1 ⟨rfl, hb1⟩)
  have hh1 := blk_below (blk_new w (.cells #[.int .i64 a0, .int .i64 a1, .int .i64 a2, .int .i64 a3, .int .i64 a4, .int .i64 a5] 23)) hb1
  have hB1 := below_step (below_alloc (Below.refl w.heap.size w) (.cells #[.int .i64 a0, .int .i64 a1, .int .i64 a2, .int .i64 a3, .int .i64 a4, .int .i64 a5] 23)) hb1
  obtain ⟨gh, hgh⟩ : ∃ gh, gh = w.heap.size := ⟨_, rfl⟩
  rw [← hgh] at hh1 ⊢
  have hhb : w.heap.size ≤ gh := by omega
  clear hb1 hgh
  go_upto_region 4 with (go_at_call 13; refine (crc_Make.calls _ _ rfl).mono ?_; rintro e w2 ⟨v0_, rfl, hRt, hb2⟩; obtain ⟨A0, c0, rfl, hc0, hC⟩ := Kd.R_reads hRt)
  have hh2 := blk_below hh1 hb2
  have hB2 := below_step hB1 hb2
  clear hRt hb2 hh1 hB1
  have m0 : w2.cell? ⟨gh, 0, none⟩ = some (.int .i64 a0) := (blk_cell hh2 0).trans rfl
  have m1 : w2.cell? ⟨gh, 1, none⟩ = some (.int .i64 a1) := (blk_cell hh2 1).trans rfl
  have m2 : w2.cell? ⟨gh, 2, none⟩ = some (.int .i64 a2) := (blk_cell hh2 2).trans rfl
  have m3 : w2.cell? ⟨gh, 3, none⟩ = some (.int .i64 a3) := (blk_cell hh2 3).trans rfl
  have m4 : w2.cell? ⟨gh, 4, none⟩ = some (.int .i64 a4) := (blk_cell hh2 4).trans rfl
  have m5 : w2.cell? ⟨gh, 5, none⟩ = some (.int .i64 a5) := (blk_cell hh2 5).trans rfl
  go_upto_region 5 with (go_at_call 12; refine (header_Put.calls A0 c0 _ _ _ _ _ _ _ _ _ _ w2 hC hc0 HPut.out).mono ?_; rintro e w3 ⟨rfl, hb3⟩)
  have hh3 := blk_below hh2 hb3
  have hB3 := below_step hB2 hb3
  have hC3 := Kd.C_below hC hb3
  clear hC hb3 hh2 hB2 m0 m1 m2 m3 m4 m5
  go_upto_region 6 with (first
    | (go_at_call 18; refine (header_Get.calls A0 c0 _ _ _ _ _ _ _ _ _ _ w3 hC3 hc0 HGet.out).mono ?_; rintro e w4 ⟨rfl, hb4⟩)
    | ((with_reducible refine gate_dst (N := 14) rfl ?_); refine box_event ?hg (N := 14) ?hd (cs := #[.int .i64 0, .int .i64 0, .int .i64 0, .int .i64 0, .int .i64 0, .int .i64 0]) (t := 23) ?hr ?_; (case hd => rfl); (case hg => rfl); (case hr => first | (go_simp; done) | (go_simp; rfl)); intro gk hgk w5 hk5 hb5; have z0 : w5.cell? ⟨gk, 0, none⟩ = some (.int .i64 0) := (blk_cell hk5 0).trans rfl; have fz0 := blk_frozen hk5 0; have z1 : w5.cell? ⟨gk, 1, none⟩ = some (.int .i64 0) := (blk_cell hk5 1).trans rfl; have fz1 := blk_frozen hk5 1; have z2 : w5.cell? ⟨gk, 2, none⟩ = some (.int .i64 0) := (blk_cell hk5 2).trans rfl; have fz2 := blk_frozen hk5 2; have z3 : w5.cell? ⟨gk, 3, none⟩ = some (.int .i64 0) := (blk_cell hk5 3).trans rfl; have fz3 := blk_frozen hk5 3; have z4 : w5.cell? ⟨gk, 4, none⟩ = some (.int .i64 0) := (blk_cell hk5 4).trans rfl; have fz4 := blk_frozen hk5 4; have z5 : w5.cell? ⟨gk, 5, none⟩ = some (.int .i64 0) := (blk_cell hk5 5).trans rfl; have fz5 := blk_frozen hk5 5; have HGK := Lib.hid hgk; clear hgk))
  have hB5 := below_step (below_step hB3 hb4) hb5
  have hh5 := blk_below (blk_below hh3 hb4) hb5
  have hC5 := Kd.C_below (Kd.C_below hC3 hb4) hb5
  have hgne : gh ≠ gk := by have := blk_lt (blk_below hh3 hb4); have := HGK.out; omega
  have hkb : w.heap.size ≤ gk := by have := (below_step hB3 hb4).size; have := HGK.out; omega
  have hAk : ∀ ad, A0 = some ad → ad.block ≠ gk := fun ad had => by
    have := HGK.out
    obtain ⟨aa, e, hcc⟩ := CrcX.tab_at (Kd.C_below hC3 hb4)
    rw [e] at had
    obtain rfl := Option.some.inj had
    have h0 := World.block_lt_of_cell? _ _ (hcc 0 (by decide))
    rw [addr_add_block] at h0
    omega
  have hk6 := st6_blk hk5 (.int .i64 a0) (.int .i64 a1) (.int .i64 a2) (.int .i64 a3) (.int .i64 a4) (.int .i64 a5)
  have hK6 := st6_keep w5 gk (.int .i64 a0) (.int .i64 a1) (.int .i64 a2) (.int .i64 a3) (.int .i64 a4) (.int .i64 a5)
  have hB6 := st6_below hB5 hkb (.int .i64 a0) (.int .i64 a1) (.int .i64 a2) (.int .i64 a3) (.int .i64 a4) (.int .i64 a5)
  have hh6 := (hK6.2 gh (blk_lt hh5) hgne (by simp)).trans hh5
  have hC6 : Kd.C (Kd.int .u32) (st6 w5 gk (.int .i64 a0) (.int .i64 a1) (.int .i64 a2) (.int .i64 a3) (.int .i64 a4) (.int .i64 a5)) A0 CrcX.crcTab.length CrcX.crcTab := C_keep hC5 hK6 hAk
  unfold st6 at hk6 hB6 hh6 hC6
  clear z0 z1 z2 z3 z4 z5 fz0 fz1 fz2 fz3 fz4 fz5 hK6 hC5 hC3 hb4 hb5 hk5 hh5 hh3 hB5 hB3
  generalize ((((((w5.setCell ⟨gk, 0, none⟩ (.int .i64 a0)).setCell ⟨gk, 1, none⟩ (.int .i64 a1)).setCell ⟨gk, 2, none⟩ (.int .i64 a2)).setCell ⟨gk, 3, none⟩ (.int .i64 a3)).setCell ⟨gk, 4, none⟩ (.int .i64 a4)).setCell ⟨gk, 5, none⟩ (.int .i64 a5)) = w6 at *
  have m0 : w6.cell? ⟨gh, 0, none⟩ = some (.int .i64 a0) := (blk_cell hh6 0).trans rfl
  have m1 : w6.cell? ⟨gh, 1, none⟩ = some (.int .i64 a1) := (blk_cell hh6 1).trans rfl
  have m2 : w6.cell? ⟨gh, 2, none⟩ = some (.int .i64 a2) := (blk_cell hh6 2).trans rfl
  have m3 : w6.cell? ⟨gh, 3, none⟩ = some (.int .i64 a3) := (blk_cell hh6 3).trans rfl
  have m4 : w6.cell? ⟨gh, 4, none⟩ = some (.int .i64 a4) := (blk_cell hh6 4).trans rfl
  have m5 : w6.cell? ⟨gh, 5, none⟩ = some (.int .i64 a5) := (blk_cell hh6 5).trans rfl
  have n0 : w6.cell? ⟨gk, 0, none⟩ = some (.int .i64 a0) := (blk_cell hk6 0).trans rfl
  have n1 : w6.cell? ⟨gk, 1, none⟩ = some (.int .i64 a1) := (blk_cell hk6 1).trans rfl
  have n2 : w6.cell? ⟨gk, 2, none⟩ = some (.int .i64 a2) := (blk_cell hk6 2).trans rfl
  have n3 : w6.cell? ⟨gk, 3, none⟩ = some (.int .i64 a3) := (blk_cell hk6 3).trans rfl
  have n4 : w6.cell? ⟨gk, 4, none⟩ = some (.int .i64 a4) := (blk_cell hk6 4).trans rfl
  have n5 : w6.cell? ⟨gk, 5, none⟩ = some (.int .i64 a5) := (blk_cell hk6 5).trans rfl
  go_upto_region 8 with (fail)
  obtain ⟨W1, cap, hcv, hrow, hB, hg⟩ := CrcTurnedR.conv w6 S
  obtain ⟨g, hgw⟩ : ∃ g, g = w6.heap.size := ⟨_, rfl⟩
  rw [← hgw] at hcv hrow hg
  have hHd := below_step hB6 hB
  have hCd := Kd.C_below hC6 hB
  have hgb : w.heap.size ≤ g := by have := hB6.size; omega
  have hAg : ∀ ad, A0 = some ad → ad.block ≠ g := fun ad had => by
    obtain ⟨aa, e, hcc⟩ := CrcX.tab_at hC6
    rw [e] at had
    obtain rfl := Option.some.inj had
    have h0 := World.block_lt_of_cell? _ _ (hcc 0 (by decide))
    rw [addr_add_block] at h0
    omega
  have HG := Lib.hid hgw
  have HR := Lib.hid hrow
  clear hgw hrow hB hB6 hC6 hh6 hk6 m0 m1 m2 m3 m4 m5 n0 n1 n2 n3 n4 n5
  go_upto_region 12 with (fail)
  obtain ⟨F, hF⟩ : ∃ F, F = a % 200 := ⟨_, rfl⟩
  have hFi : (a : Int) % 200 = (F : Int) := by omega
  have hFl : F < 200 := by omega
  rw [hFi]
  clear hF hFi hcv hcat hcat2 d1
  by_cases hE : 168 ≤ F
  · have c1 : decide ((168 : Int) ≤ (F : Int)) = true := decide_eq_true (by omega)
    have hFE : F < 200 := hFl
    go_wp2_with fail
    clear c1
    go_loopw [21, 19] (fun v21 v19 wr => ∃ (k : Nat) (l : List UInt8), k ≤ 32 ∧ F + k ≤ 200 ∧ v21 = .int .i64 k ∧ v19 = .bool (CrcTurnedR.nz (bits % 2 ^ k)) ∧ Hid (l.length = 25) ∧ Hid (num l = num P ^^^ 2 ^ F * (bits % 2 ^ k)) ∧
      Hid (CrcTurnedR.Row wr g 25 l) ∧ Below w.heap.size w wr ∧ g < wr.heap.size ∧ Aside0 (Kd.C (Kd.int .u32) wr A0 CrcX.crcTab.length CrcX.crcTab)) (fun v21 _ _ => 32 - (intOf v21).toNat)
    case atStart => exact ⟨0, P, by decide, by omega, rfl, by simp [CrcTurnedR.nz, Nat.mod_one], Lib.hid hP, Lib.hid (by simp [Nat.mod_one]), Lib.hid (by have := HR.out; rw [hSz] at this; have e := HS.out; subst e; exact this), hHd, hg, ⟨hCd⟩⟩
    case round =>
      clear hHd hg hCd
      have HAG := Aside0.mk hAg
      have HAK := Aside0.mk hAk
      have HSZ := Lib.hid hSz
      have HC0 := Aside0.mk hc0
      have HE := Lib.hid hE
      have HAW := Aside0.mk hAw
      clear hAg hAk hSz hc0 hP hhb hkb hgne hE hFl hFE hR hAw
      obtain ⟨k, l, hk, hFk, rfl, rfl, hl, hn, hr, hB1, hg1, hC1⟩ := hrel
      by_cases hgo : k < 32 ∧ F + k < 200
      · obtain ⟨hk32, hFlt⟩ := hgo
        have c1 : decide ((F : Int) + (k : Int) < 200) = true := decide_eq_true (by omega)
        have hand := and_one (bits / 2 ^ k) (Nat.lt_of_le_of_lt (Nat.div_le_self _ _) hb)
        have hcast : ((bits / 2 ^ k : Nat) : Int) = (bits : Int) / 2 ^ k := by simp
        rw [hcast] at hand
        clear hcast
        by_cases hbit : bits / 2 ^ k % 2 = 1
        · rw [hbit] at hand
          have hand' : (Go.bits .and .u32 ((bits : Int) / 2 ^ k) 1 == 1) = true := by rw [hand]; rfl
          have HB := Lib.hid hbit
          clear hand hbit
          go_wp2_with fail
          obtain ⟨i, hi⟩ : ∃ i, i = (F + k) / 8 := ⟨_, rfl⟩
          obtain ⟨j, hj⟩ : ∃ j, j = (F + k) % 8 := ⟨_, rfl⟩
          have hin : i < 25 := by omega
          have hj8 : j < 8 := by omega
          have hin' : (i : Int) < 25 := by omega
          obtain ⟨hcl, hfz⟩ := hr.out i hin
          obtain ⟨c, hc⟩ : ∃ c, c = (l.getD i 0).toNat := ⟨_, rfl⟩
          rw [← hc] at hcl
          have hc256 : c < 256 := by rw [hc]; exact byte_lt _
          obtain ⟨q, hp⟩ : ∃ q, q = 2 ^ j := ⟨_, rfl⟩
          have hp256 : q < 256 := by
            rw [hp]; exact Nat.lt_of_lt_of_le (Nat.pow_lt_pow_right (by decide) hj8) (by decide)
          have hpw : IntKind.u8.wrap (2 ^ j) = (q : Int) := by
            have e : ((q : Nat) : Int) = 2 ^ j := by rw [hp]; simp
            rw [IntKind.wrap_u8, ← e]; omega
          obtain ⟨x, hx⟩ : ∃ x, x = c ^^^ q := ⟨_, rfl⟩
          have hxw : Go.bits .xor .u8 (c : Int) (q : Int) = (x : Int) := by rw [hx]; exact xor_u8 c q hc256 hp256
          have HX := Lib.hid hx
          have HP := Lib.hid hp
          clear hx hp
          have HC := Lib.hid hc
          have HI := Lib.hid hi
          have HJ := Lib.hid hj
          obtain ⟨m, hs1, hs2, hs3, hs4⟩ := CrcTurnedR.idx F k i j hi hj (by omega)
          clear hc hi hj
          refine start_ (n := 20) (S := fun w' => w'.cell? ⟨g, i, none⟩ = some (.int .u8 (c : Int)) ∧ w'.frozen? ⟨g, i, none⟩ = false) (ds := [19]) #[false, false, false, false, false, false, false, false, false, false, false, false, false, false, false, false, false, false, false, false] (by kernel_rfl) rfl rfl ⟨hcl, hfz⟩ (fun hHeld => ?_); refine with_tabW HBk18.tab18 HBk18.bits18 (fun HT_ HW_ => ?_)
          refine pure_ (i := 0) (N := (some 100)) (v := ?_) (a' := ?_) #[true, false, false, false, false, false, false, false, false, false, false, false, false, false, false, false, false, false, false, false] rfl rfl (any_of HT_.out (by kernel_rfl)) (fun _ _ _ h => h) (Or.inl ⟨by rfl, ?_⟩) ?_ ?_
          rotate_left
          · intro w'
            go_simp
            with_reducible rfl
          rotate_left
          · simp only [Act.put, List.setIfInBounds_toArray, List.set_cons_zero, List.set_cons_succ, i64_w, i32_w]
            rfl
          refine pure_ (i := 1) (N := (some 101)) (v := ?_) (a' := ?_) #[true, true, false, false, false, false, false, false, false, false, false, false, false, false, false, false, false, false, false, false] rfl rfl (any_of HT_.out (by kernel_rfl)) (fun _ _ _ h => h) (Or.inl ⟨by rfl, ?_⟩) ?_ ?_
          rotate_left
          · intro w'
            go_simp
            with_reducible rfl
          rotate_left
          · simp only [Act.put, List.setIfInBounds_toArray, List.set_cons_zero, List.set_cons_succ, i64_w, i32_w]
            rfl
          refine pure_ (i := 2) (N := (some 102)) (v := ?_) (a' := ?_) #[true, true, true, false, false, false, false, false, false, false, false, false, false, false, false, false, false, false, false, false] rfl rfl (any_of HT_.out (by kernel_rfl)) (fun _ _ _ h => h) (Or.inl ⟨by rfl, ?_⟩) ?_ ?_
          rotate_left
          · intro w'
            go_simp
            with_reducible rfl
          rotate_left
          · simp only [Act.put, List.setIfInBounds_toArray, List.set_cons_zero, List.set_cons_succ, i64_w, i32_w]
            rfl
          refine pure_ (i := 3) (N := (some 103)) (v := ?_) (a' := ?_) #[true, true, true, true, false, false, false, false, false, false, false, false, false, false, false, false, false, false, false, false] rfl rfl (any_of HT_.out (by kernel_rfl)) (fun _ _ _ h => h) (Or.inl ⟨by rfl, ?_⟩) ?_ ?_
          rotate_left
          · intro w'
            go_simp
            with_reducible rfl
          rotate_left
          · simp only [Act.put, List.setIfInBounds_toArray, List.set_cons_zero, List.set_cons_succ, i64_w, i32_w]
            rfl
          refine pure_ (i := 4) (N := (some 104)) (v := ?_) (a' := ?_) #[true, true, true, true, true, false, false, false, false, false, false, false, false, false, false, false, false, false, false, false] rfl rfl (any_of HT_.out (by kernel_rfl)) (fun _ _ _ h => h) (Or.inl ⟨by rfl, ?_⟩) ?_ ?_
          rotate_left
          · intro w'
            go_simp
            with_reducible rfl
          rotate_left
          · simp only [Act.put, List.setIfInBounds_toArray, List.set_cons_zero, List.set_cons_succ, i64_w, i32_w]
            rfl
          refine pure_ (i := 5) (N := (some 105)) (v := ?_) (a' := ?_) #[true, true, true, true, true, true, false, false, false, false, false, false, false, false, false, false, false, false, false, false] rfl rfl (any_of HT_.out (by kernel_rfl)) (fun _ _ _ h => h) (Or.inl ⟨by rfl, ?_⟩) ?_ ?_
          rotate_left
          · intro w'
            go_simp
            with_reducible rfl
          rotate_left
          · simp only [Act.put, List.setIfInBounds_toArray, List.set_cons_zero, List.set_cons_succ, i64_w, i32_w]
            rfl
          refine pure_ (i := 6) (N := (some 106)) (v := ?_) (a' := ?_) #[true, true, true, true, true, true, true, false, false, false, false, false, false, false, false, false, false, false, false, false] rfl rfl (any_of HT_.out (by kernel_rfl)) (fun _ _ _ h => h) (Or.inl ⟨by rfl, ?_⟩) ?_ ?_
          rotate_left
          · intro w'
            go_simp
            with_reducible rfl
          rotate_left
          · simp only [Act.put, List.setIfInBounds_toArray, List.set_cons_zero, List.set_cons_succ, i64_w, i32_w]
            rfl
          refine pure_ (i := 7) (N := (some 107)) (v := ?_) (a' := ?_) #[true, true, true, true, true, true, true, true, false, false, false, false, false, false, false, false, false, false, false, false] rfl rfl (any_of HT_.out (by kernel_rfl)) (fun _ _ _ h => h) (Or.inl ⟨by rfl, ?_⟩) ?_ ?_
          rotate_left
          · intro w'
            go_simp
            with_reducible rfl
          rotate_left
          · simp only [Act.put, List.setIfInBounds_toArray, List.set_cons_zero, List.set_cons_succ, i64_w, i32_w]
            rfl
          refine pure_ (i := 8) (N := (some 108)) (v := ?_) (a' := ?_) #[true, true, true, true, true, true, true, true, true, false, false, false, false, false, false, false, false, false, false, false] rfl rfl (any_of HT_.out (by kernel_rfl)) (fun _ _ _ h => h) (Or.inl ⟨by rfl, ?_⟩) ?_ ?_
          rotate_left
          · intro w'
            go_simp
            with_reducible rfl
          rotate_left
          · simp only [Act.put, List.setIfInBounds_toArray, List.set_cons_zero, List.set_cons_succ, i64_w, i32_w]
            rfl
          refine pure_ (i := 9) (N := (some 109)) (v := ?_) (a' := ?_) #[true, true, true, true, true, true, true, true, true, true, false, false, false, false, false, false, false, false, false, false] rfl rfl (any_of HT_.out (by kernel_rfl)) (fun _ _ _ h => h) (Or.inl ⟨by rfl, ?_⟩) ?_ ?_
          rotate_left
          · intro w'
            go_simp
            with_reducible rfl
          rotate_left
          · simp only [Act.put, List.setIfInBounds_toArray, List.set_cons_zero, List.set_cons_succ, i64_w, i32_w]
            rfl
          refine pure_ (i := 10) (N := (some 110)) (v := ?_) (a' := ?_) #[true, true, true, true, true, true, true, true, true, true, true, false, false, false, false, false, false, false, false, false] rfl rfl (any_of HT_.out (by kernel_rfl)) (fun _ _ _ h => h) (Or.inl ⟨by rfl, ?_⟩) ?_ ?_
          rotate_left
          · intro w'
            go_simp
            with_reducible rfl
          rotate_left
          · simp only [Act.put, List.setIfInBounds_toArray, List.set_cons_zero, List.set_cons_succ, i64_w, i32_w]
            rfl
          refine pure_ (i := 12) (N := (some 112)) (v := ?_) (a' := ?_) #[true, true, true, true, true, true, true, true, true, true, true, false, true, false, false, false, false, false, false, false] rfl rfl (any_of HT_.out (by kernel_rfl)) (fun _ _ _ h => h) (Or.inl ⟨by rfl, ?_⟩) ?_ ?_
          rotate_left
          · intro w'
            go_simp
            with_reducible rfl
          rotate_left
          · simp only [Act.put, List.setIfInBounds_toArray, List.set_cons_zero, List.set_cons_succ, i64_w, i32_w]
            rfl
          refine pure_ (i := 13) (N := (some 113)) (v := ?_) (a' := ?_) #[true, true, true, true, true, true, true, true, true, true, true, false, true, true, false, false, false, false, false, false] rfl rfl (any_of HT_.out (by kernel_rfl)) (fun _ _ _ h => h) (Or.inl ⟨by rfl, ?_⟩) ?_ ?_
          rotate_left
          · intro w'
            go_simp
            with_reducible rfl
          rotate_left
          · simp only [Act.put, List.setIfInBounds_toArray, List.set_cons_zero, List.set_cons_succ, i64_w, i32_w]
            rfl
          refine pure_ (i := 14) (N := (some 114)) (v := ?_) (a' := ?_) #[true, true, true, true, true, true, true, true, true, true, true, false, true, true, true, false, false, false, false, false] rfl rfl (any_of HT_.out (by kernel_rfl)) (fun _ _ _ h => h) (Or.inl ⟨by rfl, ?_⟩) ?_ ?_
          rotate_left
          · intro w'
            go_simp
            with_reducible rfl
          rotate_left
          · simp only [Act.put, List.setIfInBounds_toArray, List.set_cons_zero, List.set_cons_succ, i64_w, i32_w]
            rfl
          refine pure_ (i := 15) (N := (some 115)) (v := ?_) (a' := ?_) #[true, true, true, true, true, true, true, true, true, true, true, false, true, true, true, true, false, false, false, false] rfl rfl (any_of HT_.out (by kernel_rfl)) (fun _ _ _ h => h) (Or.inl ⟨by rfl, ?_⟩) ?_ ?_
          rotate_left
          · intro w'
            go_simp
            with_reducible rfl
          rotate_left
          · simp only [Act.put, List.setIfInBounds_toArray, List.set_cons_zero, List.set_cons_succ, i64_w, i32_w]
            rfl
          refine pure_ (i := 16) (N := (some 116)) (v := ?_) (a' := ?_) #[true, true, true, true, true, true, true, true, true, true, true, false, true, true, true, true, true, false, false, false] rfl rfl (any_of HT_.out (by kernel_rfl)) (fun _ _ _ h => h) (Or.inl ⟨by rfl, ?_⟩) ?_ ?_
          rotate_left
          · intro w'
            go_simp
            with_reducible rfl
          rotate_left
          · simp only [Act.put, List.setIfInBounds_toArray, List.set_cons_zero, List.set_cons_succ, i64_w, i32_w]
            rfl
          refine take_ (i := 11) (N := (some 111)) (v := ?_) (a' := ?_) #[true, true, true, true, true, true, true, true, true, true, true, true, true, true, true, true, true, false, false, false] rfl rfl (take_ofW HT_.out HW_.out (by kernel_rfl)) (fun _ _ _ h => h) (Or.inl ⟨by rfl, ?_⟩) hHeld ?_ ?_
          rotate_left
          · intro w' hS_
            go_simp
            obtain ⟨hS1, hS2⟩ := hS_; go_simp; with_reducible rfl
          rotate_left
          · simp only [Act.put, List.setIfInBounds_toArray, List.set_cons_zero, List.set_cons_succ, i64_w, i32_w]
            rfl
          refine pure_ (i := 17) (N := (some 117)) (v := ?_) (a' := ?_) #[true, true, true, true, true, true, true, true, true, true, true, true, true, true, true, true, true, true, false, false] rfl rfl (any_of HT_.out (by kernel_rfl)) (fun _ _ _ h => h) (Or.inl ⟨by rfl, ?_⟩) ?_ ?_
          rotate_left
          · intro w'
            go_simp
            with_reducible rfl
          rotate_left
          · simp only [Act.put, List.setIfInBounds_toArray, List.set_cons_zero, List.set_cons_succ, i64_w, i32_w]
            rfl
          refine pure_ (i := 18) (N := (some 118)) (v := ?_) (a' := ?_) #[true, true, true, true, true, true, true, true, true, true, true, true, true, true, true, true, true, true, true, false] rfl rfl (any_of HT_.out (by kernel_rfl)) (fun _ _ _ h => h) (Or.inl ⟨by rfl, ?_⟩) ?_ ?_
          rotate_left
          · intro w'
            go_simp
            with_reducible rfl
          rotate_left
          · simp only [Act.put, List.setIfInBounds_toArray, List.set_cons_zero, List.set_cons_succ, i64_w, i32_w]
            rfl
          refine last_ (i := 19) (N := none) #[true, true, true, true, true, true, true, true, true, true, true, true, true, true, true, true, true, true, true, true] rfl rfl (one_of HT_.out (by kernel_rfl)) (by decide) (fun K hK => ?_)
          go_simp
          refine hK.out _ _ ?_
          clear hK K
          refine done_ (done_of HT_.out (by kernel_rfl)) ?_
          clear hs1 hs2 hs3 hs4 hpw hxw hcl hfz hHeld
          go_wp2
          go_roundw
          case rel =>
            have hil : i < l.length := by rw [hl.out]; exact hin
            have hx256 : x < 256 := by rw [HX.out]; exact Nat.xor_lt_two_pow (n := 8) hc256 hp256
            refine ⟨k + 1, l.set i (UInt8.ofNat x), by omega, by omega, by go_num, by rw [CrcTurnedR.nz_step bits k HB.out], Lib.hid (by rw [List.length_set]; exact hl.out), Lib.hid (CrcTurnedR.num_step l _ F k bits i j c q x hil HI.out HJ.out HC.out HP.out HX.out hx256 hn.out HB.out), Lib.hid (hr.out.set i x hin hl.out hx256), ?_, ?_, ⟨?_⟩⟩
            · exact (hB1.setCell (p := ⟨g, i, none⟩) hgb _).drew
            · show g < (wr.setCell _ _).heap.size
              rw [World.size_setCell]; exact hg1
            · exact Kd.C_below (C_keep hC1.out ((KeepBut.refl wr g none).set_ i _) HAG.out) (below_drew (Below.refl _ _))
          case measure => simp [intOf]; omega
        · have hbit' : bits / 2 ^ k % 2 = 0 := by omega
          rw [hbit'] at hand
          have hand' : (Go.bits .and .u32 ((bits : Int) / 2 ^ k) 1 == 1) = false := by rw [hand]; rfl
          have HB := Lib.hid hbit
          clear hand hbit hbit'
          go_wp2
          go_roundw
          case rel => exact ⟨k + 1, l, by omega, by omega, by go_num, by rw [mod_bit, if_neg HB.out], hl, Lib.hid (by rw [mod_bit, if_neg HB.out]; exact hn.out), hr, hB1, hg1, hC1⟩
          case measure => simp [intOf]; omega
      · obtain ⟨r1, r2, r3, r4, r5, r6, r7, r8, hG2, hr8⟩ := HL.out l F k hl.out hn.out (by have := HE.out; omega) hb
        have hcb : Sem.run Try.prog (Go.convert 38 9 (.slice (some ⟨g, 0, none⟩) 25 cap)) wr = .ok (.string ⟨l.toArray⟩) wr := CrcTurnedR.back hr.out hl.out
        have hTs : (⟨l.toArray⟩ : ByteArray).size = 25 := hl.out
        have HG2 := Aside0.mk hG2
        clear hG2
        generalize (⟨l.toArray⟩ : ByteArray) = T at *
        generalize CrcTurnedR.nz (bits % 2 ^ k) = bt at hr8 ⊢
        have t1 : (9223372036854775807 < T.size + more.size) = False := eq_false (by omega)
        have t2 : (9223372036854775807 < 25 + more.size) = False := eq_false (by omega)
        have hC2 := hC1.out
        by_cases hk : k < 32
        all_goals
          have q1 : decide ((k : Int) < 32) = decide (k < 32) := decide_eq_decide.2 (by omega)
          have q2 : k < 32 → decide ((F : Int) + (k : Int) < 200) = false := fun h => decide_eq_false (by omega)
          first
            | (have q3 := q2 hk; clear q1 q2 hgo)
            | (have q3 : decide ((k : Int) < 32) = false := by rw [q1]; exact decide_eq_false hk
               clear q1 q2 hgo)
          go_upto_region 21 with (first
            | (go_at_call 18; refine (header_Get.calls A0 c0 _ _ _ _ _ _ _ _ _ _ _ hC2 HC0.out HG2.out).mono ?_; rintro e w7 ⟨rfl, hb7⟩)
            | ((with_reducible refine gate_dst (N := 22) rfl ?_); refine box_event ?hg (N := 22) ?hd (cs := #[.int .i64 0, .int .i64 0, .int .i64 0, .int .i64 0, .int .i64 0, .int .i64 0]) (t := 23) ?hr ?_; (case hd => rfl); (case hg => rfl); (case hr => first | (go_simp; done) | (go_simp; rfl)); intro gz hgz w8 hz8 hb8; have z0 : w8.cell? ⟨gz, 0, none⟩ = some (.int .i64 0) := (blk_cell hz8 0).trans rfl; have fz0 := blk_frozen hz8 0; have z1 : w8.cell? ⟨gz, 1, none⟩ = some (.int .i64 0) := (blk_cell hz8 1).trans rfl; have fz1 := blk_frozen hz8 1; have z2 : w8.cell? ⟨gz, 2, none⟩ = some (.int .i64 0) := (blk_cell hz8 2).trans rfl; have fz2 := blk_frozen hz8 2; have z3 : w8.cell? ⟨gz, 3, none⟩ = some (.int .i64 0) := (blk_cell hz8 3).trans rfl; have fz3 := blk_frozen hz8 3; have z4 : w8.cell? ⟨gz, 4, none⟩ = some (.int .i64 0) := (blk_cell hz8 4).trans rfl; have fz4 := blk_frozen hz8 4; have z5 : w8.cell? ⟨gz, 5, none⟩ = some (.int .i64 0) := (blk_cell hz8 5).trans rfl; have fz5 := blk_frozen hz8 5; have HGZ := Lib.hid hgz; clear hgz))
          have hB7 := below_step hB1 hb7
          have hgzb : w.heap.size ≤ gz := by have := HGZ.out; have := hB7.size; omega
          have hB9 := st6_below (below_step hB7 hb8) hgzb (.int .i64 r1) (.int .i64 r2) (.int .i64 r3) (.int .i64 r4) (.int .i64 r5) (.int .i64 r6)
          unfold st6 at hB9
          clear z0 z1 z2 z3 z4 z5 fz0 fz1 fz2 fz3 fz4 fz5 hz8 hb8 hb7
          generalize ((((((w8.setCell ⟨gz, 0, none⟩ (.int .i64 r1)).setCell ⟨gz, 1, none⟩ (.int .i64 r2)).setCell ⟨gz, 2, none⟩ (.int .i64 r3)).setCell ⟨gz, 3, none⟩ (.int .i64 r4)).setCell ⟨gz, 4, none⟩ (.int .i64 r5)).setCell ⟨gz, 5, none⟩ (.int .i64 r6)) = w9 at *
          go_wp2_with (go_at_call 17; refine (splicerlaw29_awake.calls true _ HAW.out).mono ?_; rintro e w10 ⟨rfl, hb10⟩)
          go_ret
          exact ⟨rfl, below_step hB9 hb10⟩
  · have c1 : decide ((168 : Int) ≤ (F : Int)) = false := decide_eq_false (by omega)
    have hFE : F < 168 := by omega
    go_wp2_with fail
    clear c1
    go_loopw [21, 19] (fun v21 v19 wr => ∃ (k : Nat) (l : List UInt8), k ≤ 32 ∧ F + k ≤ 168 ∧ v21 = .int .i64 k ∧ v19 = .bool (CrcTurnedR.nz (bits % 2 ^ k)) ∧ Hid (l.length = 25) ∧ Hid (num l = num P ^^^ 2 ^ F * (bits % 2 ^ k)) ∧
      Hid (CrcTurnedR.Row wr g 25 l) ∧ Below w.heap.size w wr ∧ g < wr.heap.size ∧ Aside0 (Kd.C (Kd.int .u32) wr A0 CrcX.crcTab.length CrcX.crcTab)) (fun v21 _ _ => 32 - (intOf v21).toNat)
    case atStart => exact ⟨0, P, by decide, by omega, rfl, by simp [CrcTurnedR.nz, Nat.mod_one], Lib.hid hP, Lib.hid (by simp [Nat.mod_one]), Lib.hid (by have := HR.out; rw [hSz] at this; have e := HS.out; subst e; exact this), hHd, hg, ⟨hCd⟩⟩
    case round =>
      clear hHd hg hCd
      have HAG := Aside0.mk hAg
      have HAK := Aside0.mk hAk
      have HSZ := Lib.hid hSz
      have HC0 := Aside0.mk hc0
      have HE := Lib.hid hE
      have HAW := Aside0.mk hAw
      clear hAg hAk hSz hc0 hP hhb hkb hgne hE hFl hFE hR hAw
      obtain ⟨k, l, hk, hFk, rfl, rfl, hl, hn, hr, hB1, hg1, hC1⟩ := hrel
      by_cases hgo : k < 32 ∧ F + k < 168
      · obtain ⟨hk32, hFlt⟩ := hgo
        have c1 : decide ((F : Int) + (k : Int) < 168) = true := decide_eq_true (by omega)
        have hand := and_one (bits / 2 ^ k) (Nat.lt_of_le_of_lt (Nat.div_le_self _ _) hb)
        have hcast : ((bits / 2 ^ k : Nat) : Int) = (bits : Int) / 2 ^ k := by simp
        rw [hcast] at hand
        clear hcast
        by_cases hbit : bits / 2 ^ k % 2 = 1
        · rw [hbit] at hand
          have hand' : (Go.bits .and .u32 ((bits : Int) / 2 ^ k) 1 == 1) = true := by rw [hand]; rfl
          have HB := Lib.hid hbit
          clear hand hbit
          go_wp2_with fail
          obtain ⟨i, hi⟩ : ∃ i, i = (F + k) / 8 := ⟨_, rfl⟩
          obtain ⟨j, hj⟩ : ∃ j, j = (F + k) % 8 := ⟨_, rfl⟩
          have hin : i < 25 := by omega
          have hj8 : j < 8 := by omega
          have hin' : (i : Int) < 25 := by omega
          obtain ⟨hcl, hfz⟩ := hr.out i hin
          obtain ⟨c, hc⟩ : ∃ c, c = (l.getD i 0).toNat := ⟨_, rfl⟩
          rw [← hc] at hcl
          have hc256 : c < 256 := by rw [hc]; exact byte_lt _
          obtain ⟨q, hp⟩ : ∃ q, q = 2 ^ j := ⟨_, rfl⟩
          have hp256 : q < 256 := by
            rw [hp]; exact Nat.lt_of_lt_of_le (Nat.pow_lt_pow_right (by decide) hj8) (by decide)
          have hpw : IntKind.u8.wrap (2 ^ j) = (q : Int) := by
            have e : ((q : Nat) : Int) = 2 ^ j := by rw [hp]; simp
            rw [IntKind.wrap_u8, ← e]; omega
          obtain ⟨x, hx⟩ : ∃ x, x = c ^^^ q := ⟨_, rfl⟩
          have hxw : Go.bits .xor .u8 (c : Int) (q : Int) = (x : Int) := by rw [hx]; exact xor_u8 c q hc256 hp256
          have HX := Lib.hid hx
          have HP := Lib.hid hp
          clear hx hp
          have HC := Lib.hid hc
          have HI := Lib.hid hi
          have HJ := Lib.hid hj
          obtain ⟨m, hs1, hs2, hs3, hs4⟩ := CrcTurnedR.idx F k i j hi hj (by omega)
          clear hc hi hj
          refine start_ (n := 20) (S := fun w' => w'.cell? ⟨g, i, none⟩ = some (.int .u8 (c : Int)) ∧ w'.frozen? ⟨g, i, none⟩ = false) (ds := [19]) #[false, false, false, false, false, false, false, false, false, false, false, false, false, false, false, false, false, false, false, false] (by kernel_rfl) rfl rfl ⟨hcl, hfz⟩ (fun hHeld => ?_); refine with_tabW HBk18.tab18 HBk18.bits18 (fun HT_ HW_ => ?_)
          refine pure_ (i := 0) (N := (some 100)) (v := ?_) (a' := ?_) #[true, false, false, false, false, false, false, false, false, false, false, false, false, false, false, false, false, false, false, false] rfl rfl (any_of HT_.out (by kernel_rfl)) (fun _ _ _ h => h) (Or.inl ⟨by rfl, ?_⟩) ?_ ?_
          rotate_left
          · intro w'
            go_simp
            with_reducible rfl
          rotate_left
          · simp only [Act.put, List.setIfInBounds_toArray, List.set_cons_zero, List.set_cons_succ, i64_w, i32_w]
            rfl
          refine pure_ (i := 1) (N := (some 101)) (v := ?_) (a' := ?_) #[true, true, false, false, false, false, false, false, false, false, false, false, false, false, false, false, false, false, false, false] rfl rfl (any_of HT_.out (by kernel_rfl)) (fun _ _ _ h => h) (Or.inl ⟨by rfl, ?_⟩) ?_ ?_
          rotate_left
          · intro w'
            go_simp
            with_reducible rfl
          rotate_left
          · simp only [Act.put, List.setIfInBounds_toArray, List.set_cons_zero, List.set_cons_succ, i64_w, i32_w]
            rfl
          refine pure_ (i := 2) (N := (some 102)) (v := ?_) (a' := ?_) #[true, true, true, false, false, false, false, false, false, false, false, false, false, false, false, false, false, false, false, false] rfl rfl (any_of HT_.out (by kernel_rfl)) (fun _ _ _ h => h) (Or.inl ⟨by rfl, ?_⟩) ?_ ?_
          rotate_left
          · intro w'
            go_simp
            with_reducible rfl
          rotate_left
          · simp only [Act.put, List.setIfInBounds_toArray, List.set_cons_zero, List.set_cons_succ, i64_w, i32_w]
            rfl
          refine pure_ (i := 3) (N := (some 103)) (v := ?_) (a' := ?_) #[true, true, true, true, false, false, false, false, false, false, false, false, false, false, false, false, false, false, false, false] rfl rfl (any_of HT_.out (by kernel_rfl)) (fun _ _ _ h => h) (Or.inl ⟨by rfl, ?_⟩) ?_ ?_
          rotate_left
          · intro w'
            go_simp
            with_reducible rfl
          rotate_left
          · simp only [Act.put, List.setIfInBounds_toArray, List.set_cons_zero, List.set_cons_succ, i64_w, i32_w]
            rfl
          refine pure_ (i := 4) (N := (some 104)) (v := ?_) (a' := ?_) #[true, true, true, true, true, false, false, false, false, false, false, false, false, false, false, false, false, false, false, false] rfl rfl (any_of HT_.out (by kernel_rfl)) (fun _ _ _ h => h) (Or.inl ⟨by rfl, ?_⟩) ?_ ?_
          rotate_left
          · intro w'
            go_simp
            with_reducible rfl
          rotate_left
          · simp only [Act.put, List.setIfInBounds_toArray, List.set_cons_zero, List.set_cons_succ, i64_w, i32_w]
            rfl
          refine pure_ (i := 5) (N := (some 105)) (v := ?_) (a' := ?_) #[true, true, true, true, true, true, false, false, false, false, false, false, false, false, false, false, false, false, false, false] rfl rfl (any_of HT_.out (by kernel_rfl)) (fun _ _ _ h => h) (Or.inl ⟨by rfl, ?_⟩) ?_ ?_
          rotate_left
          · intro w'
            go_simp
            with_reducible rfl
          rotate_left
          · simp only [Act.put, List.setIfInBounds_toArray, List.set_cons_zero, List.set_cons_succ, i64_w, i32_w]
            rfl
          refine pure_ (i := 6) (N := (some 106)) (v := ?_) (a' := ?_) #[true, true, true, true, true, true, true, false, false, false, false, false, false, false, false, false, false, false, false, false] rfl rfl (any_of HT_.out (by kernel_rfl)) (fun _ _ _ h => h) (Or.inl ⟨by rfl, ?_⟩) ?_ ?_
          rotate_left
          · intro w'
            go_simp
            with_reducible rfl
          rotate_left
          · simp only [Act.put, List.setIfInBounds_toArray, List.set_cons_zero, List.set_cons_succ, i64_w, i32_w]
            rfl
          refine pure_ (i := 7) (N := (some 107)) (v := ?_) (a' := ?_) #[true, true, true, true, true, true, true, true, false, false, false, false, false, false, false, false, false, false, false, false] rfl rfl (any_of HT_.out (by kernel_rfl)) (fun _ _ _ h => h) (Or.inl ⟨by rfl, ?_⟩) ?_ ?_
          rotate_left
          · intro w'
            go_simp
            with_reducible rfl
          rotate_left
          · simp only [Act.put, List.setIfInBounds_toArray, List.set_cons_zero, List.set_cons_succ, i64_w, i32_w]
            rfl
          refine pure_ (i := 8) (N := (some 108)) (v := ?_) (a' := ?_) #[true, true, true, true, true, true, true, true, true, false, false, false, false, false, false, false, false, false, false, false] rfl rfl (any_of HT_.out (by kernel_rfl)) (fun _ _ _ h => h) (Or.inl ⟨by rfl, ?_⟩) ?_ ?_
          rotate_left
          · intro w'
            go_simp
            with_reducible rfl
          rotate_left
          · simp only [Act.put, List.setIfInBounds_toArray, List.set_cons_zero, List.set_cons_succ, i64_w, i32_w]
            rfl
          refine pure_ (i := 9) (N := (some 109)) (v := ?_) (a' := ?_) #[true, true, true, true, true, true, true, true, true, true, false, false, false, false, false, false, false, false, false, false] rfl rfl (any_of HT_.out (by kernel_rfl)) (fun _ _ _ h => h) (Or.inl ⟨by rfl, ?_⟩) ?_ ?_
          rotate_left
          · intro w'
            go_simp
            with_reducible rfl
          rotate_left
          · simp only [Act.put, List.setIfInBounds_toArray, List.set_cons_zero, List.set_cons_succ, i64_w, i32_w]
            rfl
          refine pure_ (i := 10) (N := (some 110)) (v := ?_) (a' := ?_) #[true, true, true, true, true, true, true, true, true, true, true, false, false, false, false, false, false, false, false, false] rfl rfl (any_of HT_.out (by kernel_rfl)) (fun _ _ _ h => h) (Or.inl ⟨by rfl, ?_⟩) ?_ ?_
          rotate_left
          · intro w'
            go_simp
            with_reducible rfl
          rotate_left
          · simp only [Act.put, List.setIfInBounds_toArray, List.set_cons_zero, List.set_cons_succ, i64_w, i32_w]
            rfl
          refine pure_ (i := 12) (N := (some 112)) (v := ?_) (a' := ?_) #[true, true, true, true, true, true, true, true, true, true, true, false, true, false, false, false, false, false, false, false] rfl rfl (any_of HT_.out (by kernel_rfl)) (fun _ _ _ h => h) (Or.inl ⟨by rfl, ?_⟩) ?_ ?_
          rotate_left
          · intro w'
            go_simp
            with_reducible rfl
          rotate_left
          · simp only [Act.put, List.setIfInBounds_toArray, List.set_cons_zero, List.set_cons_succ, i64_w, i32_w]
            rfl
          refine pure_ (i := 13) (N := (some 113)) (v := ?_) (a' := ?_) #[true, true, true, true, true, true, true, true, true, true, true, false, true, true, false, false, false, false, false, false] rfl rfl (any_of HT_.out (by kernel_rfl)) (fun _ _ _ h => h) (Or.inl ⟨by rfl, ?_⟩) ?_ ?_
          rotate_left
          · intro w'
            go_simp
            with_reducible rfl
          rotate_left
          · simp only [Act.put, List.setIfInBounds_toArray, List.set_cons_zero, List.set_cons_succ, i64_w, i32_w]
            rfl
          refine pure_ (i := 14) (N := (some 114)) (v := ?_) (a' := ?_) #[true, true, true, true, true, true, true, true, true, true, true, false, true, true, true, false, false, false, false, false] rfl rfl (any_of HT_.out (by kernel_rfl)) (fun _ _ _ h => h) (Or.inl ⟨by rfl, ?_⟩) ?_ ?_
          rotate_left
          · intro w'
            go_simp
            with_reducible rfl
          rotate_left
          · simp only [Act.put, List.setIfInBounds_toArray, List.set_cons_zero, List.set_cons_succ, i64_w, i32_w]
            rfl
          refine pure_ (i := 15) (N := (some 115)) (v := ?_) (a' := ?_) #[true, true, true, true, true, true, true, true, true, true, true, false, true, true, true, true, false, false, false, false] rfl rfl (any_of HT_.out (by kernel_rfl)) (fun _ _ _ h => h) (Or.inl ⟨by rfl, ?_⟩) ?_ ?_
          rotate_left
          · intro w'
            go_simp
            with_reducible rfl
          rotate_left
          · simp only [Act.put, List.setIfInBounds_toArray, List.set_cons_zero, List.set_cons_succ, i64_w, i32_w]
            rfl
          refine pure_ (i := 16) (N := (some 116)) (v := ?_) (a' := ?_) #[true, true, true, true, true, true, true, true, true, true, true, false, true, true, true, true, true, false, false, false] rfl rfl (any_of HT_.out (by kernel_rfl)) (fun _ _ _ h => h) (Or.inl ⟨by rfl, ?_⟩) ?_ ?_
          rotate_left
          · intro w'
            go_simp
            with_reducible rfl
          rotate_left
          · simp only [Act.put, List.setIfInBounds_toArray, List.set_cons_zero, List.set_cons_succ, i64_w, i32_w]
            rfl
          refine take_ (i := 11) (N := (some 111)) (v := ?_) (a' := ?_) #[true, true, true, true, true, true, true, true, true, true, true, true, true, true, true, true, true, false, false, false] rfl rfl (take_ofW HT_.out HW_.out (by kernel_rfl)) (fun _ _ _ h => h) (Or.inl ⟨by rfl, ?_⟩) hHeld ?_ ?_
          rotate_left
          · intro w' hS_
            go_simp
            obtain ⟨hS1, hS2⟩ := hS_; go_simp; with_reducible rfl
          rotate_left
          · simp only [Act.put, List.setIfInBounds_toArray, List.set_cons_zero, List.set_cons_succ, i64_w, i32_w]
            rfl
          refine pure_ (i := 17) (N := (some 117)) (v := ?_) (a' := ?_) #[true, true, true, true, true, true, true, true, true, true, true, true, true, true, true, true, true, true, false, false] rfl rfl (any_of HT_.out (by kernel_rfl)) (fun _ _ _ h => h) (Or.inl ⟨by rfl, ?_⟩) ?_ ?_
          rotate_left
          · intro w'
            go_simp
            with_reducible rfl
          rotate_left
          · simp only [Act.put, List.setIfInBounds_toArray, List.set_cons_zero, List.set_cons_succ, i64_w, i32_w]
            rfl
          refine pure_ (i := 18) (N := (some 118)) (v := ?_) (a' := ?_) #[true, true, true, true, true, true, true, true, true, true, true, true, true, true, true, true, true, true, true, false] rfl rfl (any_of HT_.out (by kernel_rfl)) (fun _ _ _ h => h) (Or.inl ⟨by rfl, ?_⟩) ?_ ?_
          rotate_left
          · intro w'
            go_simp
            with_reducible rfl
          rotate_left
          · simp only [Act.put, List.setIfInBounds_toArray, List.set_cons_zero, List.set_cons_succ, i64_w, i32_w]
            rfl
          refine last_ (i := 19) (N := none) #[true, true, true, true, true, true, true, true, true, true, true, true, true, true, true, true, true, true, true, true] rfl rfl (one_of HT_.out (by kernel_rfl)) (by decide) (fun K hK => ?_)
          go_simp
          refine hK.out _ _ ?_
          clear hK K
          refine done_ (done_of HT_.out (by kernel_rfl)) ?_
          clear hs1 hs2 hs3 hs4 hpw hxw hcl hfz hHeld
          go_wp2
          go_roundw
          case rel =>
            have hil : i < l.length := by rw [hl.out]; exact hin
            have hx256 : x < 256 := by rw [HX.out]; exact Nat.xor_lt_two_pow (n := 8) hc256 hp256
            refine ⟨k + 1, l.set i (UInt8.ofNat x), by omega, by omega, by go_num, by rw [CrcTurnedR.nz_step bits k HB.out], Lib.hid (by rw [List.length_set]; exact hl.out), Lib.hid (CrcTurnedR.num_step l _ F k bits i j c q x hil HI.out HJ.out HC.out HP.out HX.out hx256 hn.out HB.out), Lib.hid (hr.out.set i x hin hl.out hx256), ?_, ?_, ⟨?_⟩⟩
            · exact (hB1.setCell (p := ⟨g, i, none⟩) hgb _).drew
            · show g < (wr.setCell _ _).heap.size
              rw [World.size_setCell]; exact hg1
            · exact Kd.C_below (C_keep hC1.out ((KeepBut.refl wr g none).set_ i _) HAG.out) (below_drew (Below.refl _ _))
          case measure => simp [intOf]; omega
        · have hbit' : bits / 2 ^ k % 2 = 0 := by omega
          rw [hbit'] at hand
          have hand' : (Go.bits .and .u32 ((bits : Int) / 2 ^ k) 1 == 1) = false := by rw [hand]; rfl
          have HB := Lib.hid hbit
          clear hand hbit hbit'
          go_wp2
          go_roundw
          case rel => exact ⟨k + 1, l, by omega, by omega, by go_num, by rw [mod_bit, if_neg HB.out], hl, Lib.hid (by rw [mod_bit, if_neg HB.out]; exact hn.out), hr, hB1, hg1, hC1⟩
          case measure => simp [intOf]; omega
      · obtain ⟨r1, r2, r3, r4, r5, r6, r7, r8, hG2, hr8⟩ := HL.out l F k hl.out hn.out (by have := HE.out; omega) hb
        have hcb : Sem.run Try.prog (Go.convert 38 9 (.slice (some ⟨g, 0, none⟩) 25 cap)) wr = .ok (.string ⟨l.toArray⟩) wr := CrcTurnedR.back hr.out hl.out
        have hTs : (⟨l.toArray⟩ : ByteArray).size = 25 := hl.out
        have HG2 := Aside0.mk hG2
        clear hG2
        generalize (⟨l.toArray⟩ : ByteArray) = T at *
        generalize CrcTurnedR.nz (bits % 2 ^ k) = bt at hr8 ⊢
        have t1 : (9223372036854775807 < T.size + more.size) = False := eq_false (by omega)
        have t2 : (9223372036854775807 < 25 + more.size) = False := eq_false (by omega)
        have hC2 := hC1.out
        by_cases hk : k < 32
        all_goals
          have q1 : decide ((k : Int) < 32) = decide (k < 32) := decide_eq_decide.2 (by omega)
          have q2 : k < 32 → decide ((F : Int) + (k : Int) < 168) = false := fun h => decide_eq_false (by omega)
          first
            | (have q3 := q2 hk; clear q1 q2 hgo)
            | (have q3 : decide ((k : Int) < 32) = false := by rw [q1]; exact decide_eq_false hk
               clear q1 q2 hgo)
          go_upto_region 21 with (first
            | (go_at_call 18; refine (header_Get.calls A0 c0 _ _ _ _ _ _ _ _ _ _ _ hC2 HC0.out HG2.out).mono ?_; rintro e w7 ⟨rfl, hb7⟩)
            | ((with_reducible refine gate_dst (N := 22) rfl ?_); refine box_event ?hg (N := 22) ?hd (cs := #[.int .i64 0, .int .i64 0, .int .i64 0, .int .i64 0, .int .i64 0, .int .i64 0]) (t := 23) ?hr ?_; (case hd => rfl); (case hg => rfl); (case hr => first | (go_simp; done) | (go_simp; rfl)); intro gz hgz w8 hz8 hb8; have z0 : w8.cell? ⟨gz, 0, none⟩ = some (.int .i64 0) := (blk_cell hz8 0).trans rfl; have fz0 := blk_frozen hz8 0; have z1 : w8.cell? ⟨gz, 1, none⟩ = some (.int .i64 0) := (blk_cell hz8 1).trans rfl; have fz1 := blk_frozen hz8 1; have z2 : w8.cell? ⟨gz, 2, none⟩ = some (.int .i64 0) := (blk_cell hz8 2).trans rfl; have fz2 := blk_frozen hz8 2; have z3 : w8.cell? ⟨gz, 3, none⟩ = some (.int .i64 0) := (blk_cell hz8 3).trans rfl; have fz3 := blk_frozen hz8 3; have z4 : w8.cell? ⟨gz, 4, none⟩ = some (.int .i64 0) := (blk_cell hz8 4).trans rfl; have fz4 := blk_frozen hz8 4; have z5 : w8.cell? ⟨gz, 5, none⟩ = some (.int .i64 0) := (blk_cell hz8 5).trans rfl; have fz5 := blk_frozen hz8 5; have HGZ := Lib.hid hgz; clear hgz))
          have hB7 := below_step hB1 hb7
          have hgzb : w.heap.size ≤ gz := by have := HGZ.out; have := hB7.size; omega
          have hB9 := st6_below (below_step hB7 hb8) hgzb (.int .i64 r1) (.int .i64 r2) (.int .i64 r3) (.int .i64 r4) (.int .i64 r5) (.int .i64 r6)
          unfold st6 at hB9
          clear z0 z1 z2 z3 z4 z5 fz0 fz1 fz2 fz3 fz4 fz5 hz8 hb8 hb7
          generalize ((((((w8.setCell ⟨gz, 0, none⟩ (.int .i64 r1)).setCell ⟨gz, 1, none⟩ (.int .i64 r2)).setCell ⟨gz, 2, none⟩ (.int .i64 r3)).setCell ⟨gz, 3, none⟩ (.int .i64 r4)).setCell ⟨gz, 4, none⟩ (.int .i64 r5)).setCell ⟨gz, 5, none⟩ (.int .i64 r6)) = w9 at *
          go_wp2_with (go_at_call 17; refine (splicerlaw29_awake.calls true _ HAW.out).mono ?_; rintro e w10 ⟨rfl, hb10⟩)
          go_ret
          exact ⟨rfl, below_step hB9 hb10⟩
set_option maxHeartbeats 2000000 in
set_option maxRecDepth 100000 in
theorem hbk_no (a0 a1 a2 a3 a4 a5 p : Int) (more : ByteArray) (a bits : Int) (w : World) (t : Bool) (hR : splicerref29_Right.f a0 a1 a2 a3 a4 a5 p = some t) (h : t = false ∨ (t = true ∧ 100 < more.size)) (hAw : splicerlaw29_awake.f = some true) :
    Calls Try.prog 5 #[.agg #[.int .i64 a0, .int .i64 a1, .int .i64 a2, .int .i64 a3, .int .i64 a4, .int .i64 a5], .int .i64 p, .string more, .int .u16 a, .int .u32 bits] w fun e w' => e = .returned (.bool true) ∧ Below w.heap.size w w' := by
  have hu := Try.underlying23
  have hB0 := below_alloc (Below.refl w.heap.size w) (.cells #[.int .i64 a0, .int .i64 a1, .int .i64 a2, .int .i64 a3, .int .i64 a4, .int .i64 a5] 23)
  rcases h with rfl | ⟨rfl, h⟩
  · go_enter Try.func5, Try.ntmps5
    go_wp2_with (first
      | (go_at_call 16; refine (splicerref29_Right.calls _ _ _ _ _ _ _ _ _ hR).mono ?_; rintro e w1 ⟨rfl, hb1⟩)
      | (go_at_call 17; refine (splicerlaw29_awake.calls true _ hAw).mono ?_; rintro e w2 ⟨rfl, hb2⟩))
    go_ret
    exact ⟨rfl, below_step (below_step hB0 hb1) hb2⟩
  · have d1 : decide ((100 : Int) < (more.size : Int)) = true := decide_eq_true (by omega)
    go_enter Try.func5, Try.ntmps5
    go_wp2_with (first
      | (go_at_call 16; refine (splicerref29_Right.calls _ _ _ _ _ _ _ _ _ hR).mono ?_; rintro e w1 ⟨rfl, hb1⟩)
      | (go_at_call 17; refine (splicerlaw29_awake.calls true _ hAw).mono ?_; rintro e w2 ⟨rfl, hb2⟩))
    go_ret
    exact ⟨rfl, below_step (below_step hB0 hb1) hb2⟩
def splicerlaw29_HeaderBack.Pure : Prop := splicerlaw29_awake.f = some true ∧ ∀ (a0 a1 a2 a3 a4 a5 p : Int) (more : ByteArray), ∃ t, splicerref29_Right.f a0 a1 a2 a3 a4 a5 p = some t ∧
  (t = true → more.size ≤ 100 → ∃ P : List UInt8, P.length = 25 ∧ header_Put.f CrcX.crcTab a0 a1 a2 a3 a4 a5 p = some (⟨P.toArray⟩, 0) ∧ header_Get.f CrcX.crcTab (⟨P.toArray⟩ ++ more) = some (a0, a1, a2, a3, a4, a5, p, 0) ∧ ∀ bits, HBkLaw P more bits)
open Go.WideShapes in
set_option maxRecDepth 100000 in
theorem splicerlaw29_HeaderBack.walk (P : splicerlaw29_HeaderBack.Pure) (v0 : Value) (x0 : S23) (a1 : Int) (a2 : ByteArray) (a3 : Int) (a4 : Int) (w : World) (K0 : k23.K w x0 v0.cells.toList) {wf0 : Prop} (_ : wf0)
    (ok0 : ∃ base, Value.okWide Try.prog w .any base 23 v0) (w1 : (Lit.int .i64 a1).wf = true) (w2 : a2.size ≤ 140737488351232) (w3 : (Lit.int .u16 a3).wf = true) (w4 : (Lit.int .u32 a4).wf = true) :
    Calls Try.prog 5 #[v0, .int .i64 a1, .string a2, .int .u16 a3, .int .u32 a4] w fun e w' => e = .returned (.bool true) ∧ Below w.heap.size w w' := by
  obtain ⟨_, ok0⟩ := ok0
  obtain ⟨cs, rfl, _⟩ := okWide_struct Try.underlying23 ok0
  have hcs := k23_open K0
  obtain rfl : cs = #[.int .i64 x0.f0, .int .i64 x0.f1, .int .i64 x0.f2, .int .i64 x0.f3, .int .i64 x0.f4, .int .i64 x0.f5] := by
    have := congrArg List.toArray hcs
    simpa [Value.cells] using this
  have b1 := bounds_u16 w3
  have b2 := bounds_u32 w4
  obtain ⟨a, rfl⟩ := Int.eq_ofNat_of_zero_le b1.1
  obtain ⟨bits, rfl⟩ := Int.eq_ofNat_of_zero_le b2.1
  obtain ⟨hAw, h⟩ := P
  obtain ⟨t, hR, h⟩ := h x0.f0 x0.f1 x0.f2 x0.f3 x0.f4 x0.f5 a1 a2
  cases t with
  | false => exact hbk_no _ _ _ _ _ _ _ a2 a bits w false hR (.inl rfl) hAw
  | true =>
    by_cases hm : a2.size ≤ 100
    · obtain ⟨Q, hQ, hp, hg, hl⟩ := h rfl hm
      exact hbk_run _ _ _ _ _ _ _ Q _ a2 rfl a bits w hQ hm (by omega) (by omega) hR hp hg (hl bits) hAw
    · exact hbk_no _ _ _ _ _ _ _ a2 a bits w true hR (.inr ⟨rfl, by omega⟩) hAw
end
end Go.Proofs.Ythdlikiakegekaa.S
