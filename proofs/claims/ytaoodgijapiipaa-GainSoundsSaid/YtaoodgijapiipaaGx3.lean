-- Written for this claim by a program of the session (myprint.py), out of the translation's own print; Lean checks it.
import Derived.Test.YtaoodgijapiipaaGx0
import Derived.Test.YtaoodgijapiipaaGx1
import Derived.Test.YtaoodgijapiipaaGx2
namespace Go.Proofs.Ytaoodgijapiipaa.S
open Go.RowKit Go.Proofs.YtaoodgijapiipaaW.PrintWords Go.Proofs.YtaoodgijapiipaaW.PrintLast Go.Proofs.YtaoodgijapiipaaW.PrintMore
attribute [local go_sem] max2_int min2_int max_two min_two max_three min_three max_four min_four   -- for this text's walks alone
set_option linter.unusedVariables false
set_option linter.unusedSimpArgs false

/-! ### gain_Sound: function 31 -/
section
open RoundW ZipW
attribute [local go_sem] Oper.semAt_some wide_fn wide_depth
namespace GL
theorem w64 {x : Int} (h : -9223372036854775808 ≤ x) (h' : x ≤ 9223372036854775807) : wrap64 x = x := by
  unfold wrap64; omega

theorem within1 (M a : Int) (hM : 0 ≤ M) (hM' : M ≤ 9223372036854775807) (k : Nat) (hk : 2 ≤ k) :
    num_within.f k M [a] = some (decide (-M ≤ a ∧ a ≤ M)) := by
  obtain ⟨k, rfl⟩ : ∃ m, k = m + 2 := ⟨k - 2, by omega⟩
  unfold num_within.f
  simp only [num_within.l0, List.length_cons, List.length_nil]
  rw [w64 (x := -M) (by omega) (by omega)]
  have r0 : rd [a] 0 = a := rfl
  rw [r0]
  by_cases h1 : a < -M
  · simp [h1]; omega
  · by_cases h2 : a > M
    · simp [h1, h2]
    · have e1 : wrap64 (0 + 1) = 1 := w64 (x := 0 + 1) (by omega) (by omega)
      rw [e1]; simp [h1, h2]; omega

/-- A number divided by a power of two, to the nearest. -/
def shrS (x n : Int) : Int := if n < 0 ∨ 60 < n ∨ x < -2305843009213693952 ∨ 2305843009213693952 < x then 0 else x / 2 ^ n.toNat + (if 2 ^ n.toNat ≤ 2 * (x % 2 ^ n.toNat) then 1 else 0)

theorem pow_split (n : Nat) (h : 1 ≤ n) : (2 : Int) ^ n = 2 * 2 ^ (n - 1) := by
  obtain ⟨m, rfl⟩ : ∃ m, n = m + 1 := ⟨n - 1, by omega⟩
  rw [Int.pow_succ, Int.mul_comm]; rfl

theorem pow_le (n : Nat) (h : n ≤ 60) : 1 ≤ (2 : Int) ^ n ∧ (2 : Int) ^ n ≤ 1152921504606846976 := by
  have h1 : (2 : Nat) ^ n ≤ 2 ^ 60 := Nat.pow_le_pow_right (by decide) h
  have h2 : 1 ≤ (2 : Nat) ^ n := Nat.one_le_two_pow
  have e : ((2 ^ n : Nat) : Int) = (2 : Int) ^ n := by simp
  have e60 : (2 : Nat) ^ 60 = 1152921504606846976 := by decide
  omega

theorem shl1 (n : Nat) (h : n ≤ 60) : shl .i64 1 n = 2 ^ n := by
  unfold shl
  have : min (n : Int).toNat IntKind.i64.bits = n := by simp [IntKind.bits]; omega
  rw [this, IntKind.wrap_i64]
  have := pow_le n h
  omega

theorem shr64 (x : Int) (n : Nat) (h : n ≤ 60) : shr .i64 x n = x / 2 ^ n := by
  unfold shr
  have : min (n : Int).toNat IntKind.i64.bits = n := by simp [IntKind.bits]; omega
  rw [this]

theorem half_up (x p q : Int) (hq : q = 2 * p) (hp : 1 ≤ p) : (x + p) / q = x / q + (if q ≤ 2 * (x % q) then 1 else 0) := by
  subst hq
  have e := Int.mul_ediv_add_emod x (2 * p)
  have m0 := Int.emod_nonneg x (show 2 * p ≠ 0 by omega)
  have m1 := Int.emod_lt_of_pos x (show 0 < 2 * p by omega)
  generalize x / (2 * p) = q at *
  generalize x % (2 * p) = r at *
  split
  · have : x + p = (r + p - 2 * p) + (2 * p) * (q + 1) := by rw [Int.mul_add]; omega
    rw [this, Int.add_mul_ediv_left _ _ (by omega), Int.ediv_eq_zero_of_lt (by omega) (by omega)]; omega
  · have : x + p = (r + p) + (2 * p) * q := by omega
    rw [this, Int.add_mul_ediv_left _ _ (by omega), Int.ediv_eq_zero_of_lt (by omega) (by omega)]; omega

theorem shrN (x n : Int) (h0 : -9223372036854775808 ≤ x) (h1 : x ≤ 9223372036854775807) (hn : -9223372036854775808 ≤ n) (hn' : n ≤ 9223372036854775807) (k : Nat) (hk : 3 ≤ k) :
    num_Shr.f k x n = some (shrS x n) := by
  have hk1 : k = (k - 1) + 1 := by omega
  unfold num_Shr.f shrS
  rw [within1 _ _ (by decide) (by decide) k (by omega)]
  rw [hk1]
  simp only [num_Shr.j0, Option.bind_some]
  by_cases hr : n < 0 ∨ 60 < n ∨ x < -2305843009213693952 ∨ 2305843009213693952 < x
  · rw [if_pos hr]
    by_cases a1 : n < 0
    · rw [if_pos a1]; rfl
    · rw [if_neg a1]
      by_cases a2 : n > 60
      · rw [if_pos a2]; rfl
      · rw [if_neg a2, if_pos (by simp; omega)]
  · have d1 : (!decide (-2305843009213693952 ≤ x ∧ x ≤ 2305843009213693952)) = false := by simp; omega
    simp only [if_neg hr, if_neg (show ¬ n < 0 by omega), if_neg (show ¬ n > 60 by omega), d1, if_neg (show ¬ (false = true) by decide)]
    obtain ⟨m, rfl⟩ : ∃ m : Nat, n = m := ⟨n.toNat, by omega⟩
    have hm : m ≤ 60 := by omega
    have hp := pow_le m hm
    rw [shr64 _ m hm]
    simp only [Int.toNat_natCast]
    by_cases hz : (m : Int) = 0
    · have : m = 0 := by omega
      subst this
      simp
    · rw [if_neg hz, w64 (x := (m : Int) - 1) (by omega) (by omega), if_pos (by omega)]
      have e1 : ((m : Int) - 1) = ((m - 1 : Nat) : Int) := by omega
      have hp' := pow_le (m - 1) (by omega)
      rw [e1, shl1 (m - 1) (by omega), w64 (by omega) (by omega), half_up x _ _ (pow_split m (by omega)) hp'.1, if_pos (by omega)]
def quarter (f : Int) : Int := level_quarter f
theorem quarter_b (f : Int) : 16777216 ≤ level_quarter f ∧ level_quarter f ≤ 28215802 := by
  unfold level_quarter; repeat' split
  all_goals omega
def gainS (g : Int) : Int := if g < -64 ∨ 32 < g then 0 else shrS (level_quarter (g % 4)) (8 - g / 4)
theorem gainN (g : Int) : level_Gain.f g = some (gainS g) := by
  unfold level_Gain.f gainS
  by_cases h1 : g < -64
  · simp [h1]
  by_cases h2 : g > 32
  · simp [h1, h2]
  simp only [if_neg h1, if_neg h2, if_neg (show ¬ (g < -64 ∨ 32 < g) by omega)]
  have q := quarter_b (g % 4)
  rw [w64 (x := 8 - g / 4) (by omega) (by omega), shrN _ _ (by omega) (by omega) (by omega) (by omega) 5 (by decide)]
theorem w64_range (x : Int) : -9223372036854775808 ≤ wrap64 x ∧ wrap64 x ≤ 9223372036854775807 := by unfold wrap64; omega
def satS (a : Int) : Int := if a < -32768 then -32768 else if 32767 < a then 32767 else a
theorem satN (a : Int) : num_Sat.f a = some (satS a) := by
  unfold num_Sat.f mx mn satS
  congr 1; repeat' split
  all_goals omega
def applyS (x g : Int) : Int := if x < -1073741824 ∨ 1073741824 < x then 0 else satS (shrS (wrap64 (x * gainS g)) 16)
theorem applyN (x g : Int) (k : Nat) (hk : 6 ≤ k) : level_Apply.f k x g = some (applyS x g) := by
  have hk1 : k = (k - 1) + 1 := by omega
  unfold level_Apply.f applyS
  rw [hk1]
  simp only [level_Apply.j0]
  have wr := w64_range (x * gainS g)
  have s := shrN (wrap64 (x * gainS g)) 16 wr.1 wr.2 (by decide) (by decide) (k - 1) (by omega)
  by_cases h1 : x < -1073741824
  · simp [h1]
  by_cases h2 : x > 1073741824
  · simp [h1, h2]
  simp only [if_neg h1, if_neg h2, decide_eq_false h2, if_neg (show ¬ (x < -1073741824 ∨ 1073741824 < x) by omega), if_neg (show ¬ (false = true) by decide), gainN, Option.bind_some, s, satN]
end GL
/-- A row made louder. -/
def rowS (fx gs : Nat → Int) (m : Nat) : List Int := (List.finRange m).map fun (j : Fin m) => GL.applyS (fx j) (gs j)
/-- Rows that are made: each in a block of its own (f: which row's a block is). -/
def DoneS (xs : Nat → Nat → Int) (gs : Nat → Int) (p B : Nat) (W : World) (cs : Array Value) (c : Nat) : Prop :=
  ∃ f : Nat → Nat, ∀ j, j < c → ∃ v, cs[j]? = some v ∧ W.ownsRow B 3 1 v p (nums .i64 (rowS (xs j) gs p)) ∧ ∀ k, v.ownBlock = some k → f k = j
def SndPost (xs : Nat → Nat → Int) (gs : Nat → Int) (n p B : Nat) (w : World) (e : Ending) (w' : World) : Prop :=
  ∃ v, e = .returned v ∧ (∃ cs : Array Value, cs.size = n ∧ DoneS xs gs p w.heap.size w' cs n ∧ w'.ownsRow w.heap.size 59 1 v n cs.toList) ∧ Below w.heap.size w w'
def SndInv (A0 A1 : Option Addr) (c0 c1 n p : Nat) (xs : Nat → Nat → Int) (gs : Nat → Int) (w w1 W0 : World) (a' : Act) (W : World) : Prop :=
  ∃ (c : Nat) (u4 u5 u18 u19 u20 u21 u22 u23 u24 u25 u26 u41 : Value) (Ds : List Nat) (cs : Array Value), (u18 = .int .i64 (c : Nat) ∧ c ≤ n ∧ Marked (w1.heap.size + 2) Ds W ∧ cs.size = n ∧ W.heap[w1.heap.size]? = some (.cells cs 59 (0, 0)) ∧ Kept W0 W (fun k => k = w1.heap.size) ∧ Below w.heap.size w W ∧ DoneS xs gs p w.heap.size W cs c ∧ ∀ j, c ≤ j → j < n → cs[j]? = some (.slice none 0 0)) ∧ a' = { tmps := #[.agg #[.slice A0 n c0, .slice A1 p c1], .pointer (some ⟨w.heap.size, 0, none⟩), .slice none 0 0, .pointer (some ⟨w1.heap.size + 1, 0, none⟩), u4, u5, undef, undef, .agg #[.slice A0 n c0, .slice A1 p c1], .bool true, .bool false, .pointer (some ⟨w.heap.size, 0, none⟩), .slice A0 n c0, .int .i64 (n : Nat), .slice (some ⟨w1.heap.size, 0, none⟩) n n, .pointer (some ⟨w.heap.size, 0, none⟩), .slice A0 n c0, .int .i64 (n : Nat), u18, u19, u20, u21, u22, u23, u24, u25, u26, undef, undef, undef, undef, undef, undef, undef, undef, undef, undef, undef, undef, undef, undef, u41, undef], defers := Ds.map markOf }
theorem cell_al {W : World} {a : Addr} {v : Value} (h : W.cell? a = some v) (o : Obj) : (W.alloc o).cell? a = some v := ((below_alloc (Below.refl _ _) o).cell (World.block_lt_of_cell? _ _ h)).trans h
theorem own_bel {W W' : World} {base : Nat} {e : TypeId} {size m : Nat} {v : Value} {xs : List Value} (h : W.ownsRow base e size v m xs) (hb : Below W.heap.size W W') : W'.ownsRow base e size v m xs := own_move h fun k hv => hb.block k (own_lt h k hv)
theorem bcellL {W w1 : World} (hb : Below W.heap.size W w1) : (∀ b o, b < W.heap.size → w1.cell? ⟨b, o, none⟩ = W.cell? ⟨b, o, none⟩) ∧ (∀ b o, b < W.heap.size → w1.frozen? ⟨b, o, none⟩ = W.frozen? ⟨b, o, none⟩) :=
  ⟨fun b o h => hb.cell (p := ⟨b, o, none⟩) h, fun b o h => hb.frozen (p := ⟨b, o, none⟩) h⟩
def SndIn.T10 : Bool × List (List Nat × List Nat) := (true, [([], []), ([], []), ([], []), ([], []), ([2, 3], [2, 3]), ([4], [4]), ([], []), ([], []), ([6, 7], [6, 7]), ([8], [8]), ([5, 9, 8], [5, 9]), ([0, 1, 0, 1, 2, 3, 4, 5, 6, 7, 8, 9, 10], [0, 1]), ([11, 10, 10, 0, 1, 2, 3, 4, 5, 6, 7, 8, 9, 10], [10, 11])])
def SndIn.B10 : List Nat := [0, 0, 0, 0, 12, 28, 0, 0, 192, 448, 1020, 2047, 4095]
theorem SndIn.tab10 : rtab .any (opsOf Try.f31 10) = SndIn.T10 := by kernel_rfl
theorem SndIn.bits10 : waitsOk SndIn.T10.2 SndIn.B10 = true := by kernel_rfl
/- 0:load>29; 1:load>30; 2:load>31; 3:load>32; 4:indexAddr>33; 5:load>34; 6:move>35; 7:move>36; 8:call>37; 9:buildSlice>38; 10:call>39; 11:indexAddr>40; 12:store>None -/
set_option maxHeartbeats 2000000 in
set_option maxRecDepth 100000 in
theorem gain_Sound_eq (A0 A1 : Option Addr) (c0 c1 n p : Nat) (xs : Nat → List Int) (aa : Nat → Option Addr) (ca : Nat → Nat) (gs : Nat → Int) (w : World) (hn : n ≤ 2) (hp : p ≤ 1000000)
    (hx : ∀ i, i < n → ∃ ad, A0 = some ad ∧ ad.block < w.heap.size ∧ (xs i).length = p ∧ Kd.C (Kd.int .i64) w (aa i) (xs i).length (xs i) ∧ w.cell? (ad.add i) = some (.slice (aa i) p (ca i)))
    (hg : ∀ j, j < p → ∃ ad : Addr, A1 = some ad ∧ ad.block < w.heap.size ∧ w.cell? (ad.add j) = some (.int .i64 (gs j)))
    (hR : ∀ W, Below w.heap.size w W → Calls Try.prog 33 #[.agg #[.slice A0 n c0, .slice A1 p c1]] W fun e w' => e = .returned (.bool true) ∧ Below W.heap.size W w') :
    Calls Try.prog 31 #[.agg #[.slice A0 n c0, .slice A1 p c1]] w (SndPost (fun i j => (xs i).getD j 0) gs n p w.heap.size w) := by
  have HX := Aside0.mk hx
  have HG := Aside0.mk hg
  have HR := Aside0.mk hR
  clear hx hg hR
  have hmk := print_make_of (P := Try.prog) 58 59 (.slice none 0 0) 24 Try.underlying58 (by kernel_rfl) rfl (by decide) n (by omega)
  have hu61 := Try.underlying61
  refine calls_marks Try.func31 rfl ?_
  simp only [Try.ntmps31, List.size_toArray, List.length_cons, List.length_nil, Nat.reduceAdd, Nat.reduceSub, Array.replicate_succ, Array.replicate_zero, List.push_toArray, List.append_toArray, List.nil_append, List.cons_append]
  go_wp2_with (go_at_call 33; refine (HR.out _ (below_alloc (Below.refl _ _) _)).mono ?_; rintro e w1 ⟨rfl, hb1⟩; obtain ⟨hbc, hbf⟩ := bcellL hb1; have hz : w.heap.size < w1.heap.size := by have := hb1.size; simp at this; omega)
  obtain ⟨W0, hW0⟩ : ∃ W0, W0 = ((w1.alloc (.cells (madeCells #[.slice none 0 0] n) 59)).alloc (.cells #[.slice (some ⟨w1.heap.size, 0, none⟩) n n] 58)) := ⟨_, rfl⟩
  rw [← hW0]
  have hB0 : Below w.heap.size w W0 := by rw [hW0]; exact below_alloc (below_alloc (below_step (below_alloc (Below.refl _ _) _) hb1) _) _
  have hsz : W0.heap.size = w1.heap.size + 2 := by rw [hW0]; simp
  have hgo0 : W0.heap[w1.heap.size]? = some (.cells (madeCells #[.slice none 0 0] n) 59 (0, 0)) := by rw [hW0]; exact blk_alloc (blk_new w1 _) _
  have hg30 : Boxed W0 (w1.heap.size + 1) 58 (.slice (some ⟨w1.heap.size, 0, none⟩) n n) := by
    have := Boxed.new (w1.alloc (.cells (madeCells #[.slice none 0 0] n) 59)) 58 (.slice (some ⟨w1.heap.size, 0, none⟩) n n)
    rw [World.size_alloc] at this
    rw [hW0]; exact this
  have hg10 : W0.heap[w.heap.size]? = some (.cells #[.slice A0 n c0, .slice A1 p c1] 61 (0, 0)) := by
    rw [hW0]; exact blk_alloc (blk_alloc ((hb1.block _ (by simp)).trans (blk_new w _)) _) _
  have hcs0 : (madeCells #[.slice none 0 0] n).size = n := by simp [size_madeCells]
  have hnil0 : ∀ j, j < n → (madeCells #[.slice none 0 0] n)[j]? = some (.slice none 0 0) := by
    intro j hj
    simp [madeCells, hj, Nat.mod_one]
  clear hW0 hbc hbf hb1 hmk
  refine wp_loop (SndInv A0 A1 c0 c1 n p (fun i j => (xs i).getD j 0) gs w w1 W0)
    (fun a' _ => n - (intOf (a'.tmps.getD 18 undef)).toNat) ⟨0, _, _, _, _, _, _, _, _, _, _, _, _, [], _, ⟨rfl, Nat.zero_le _, Marked.nil _ _, hcs0, hgo0, Kept.refl _ _, hB0, ⟨fun _ => 0, fun j hj => absurd hj (Nat.not_lt_zero _)⟩, fun j _ hj => hnil0 j hj⟩, rfl⟩ ?_
  rintro a' W ⟨c, u4, u5, u18, u19, u20, u21, u22, u23, u24, u25, u26, u41, Ds, cs, ⟨rfl, hc, hM, hcs, hgo, hK, hB, hD, hnil⟩, rfl⟩
  clear hcs0 hnil0 hgo0
  have hWs := hK.1
  have hg3 := boxed_kept hg30 hK (by omega)
  have hg1 := blk_keptS hg10 hK (by omega)
  have hg1c : W.cell? ⟨w.heap.size, 1, none⟩ = some (.slice A1 p c1) := (blk_cell hg1 1).trans rfl
  by_cases hlt : c < n
  · have hd : decide ((c : Int) < (n : Int)) = true := decide_eq_true (by omega)
    obtain ⟨ad, rfl, had, hxl, hxC, hxc⟩ := HX.out c hlt
    have hxcW := (hB.cell (p := ad.add c) (World.block_lt_of_cell? _ _ hxc)).trans hxc
    have hx0 := row_cells hxC
    rw [hxl] at hx0
    have HX0 := Aside0.mk hx0
    clear hx0 hxc
    have hlw : w.heap.size < W.heap.size := by omega
    obtain ⟨fx, hfx⟩ : ∃ fx : Nat → Int, fx = fun j => (xs c).getD j 0 := ⟨_, rfl⟩
    have HX0 : Aside0 (∀ i, i < p → ∃ a : Addr, aa c = some a ∧ a.block < w.heap.size ∧ w.cell? (a.add i) = some (.int .i64 (fx i))) := ⟨by rw [hfx]; exact HX0.out⟩
    have HFX := Lib.hid hfx
    clear hfx hxC
    generalize aa c = ax at *
    generalize ca c = cx at *
    go_wp2_with (go_at_call 47; refine (zip_ii _ _ _ _ _ _ _).mono ?_; rintro e w2 ⟨rfl, rfl⟩)
    obtain ⟨W2, hW2⟩ : ∃ W2, W2 = (((W.alloc (.cells #[.int .i64 (c : Nat)] 3)).alloc (.cells #[.slice ax p cx] 59)).alloc (.cells #[.slice A1 p c1] 59)) := ⟨_, rfl⟩
    rw [← hW2]
    have hB2 : Below W.heap.size W W2 := by rw [hW2]; exact below_alloc (below_alloc (below_alloc (Below.refl _ _) _) _) _
    have hs2 : W2.heap.size = W.heap.size + 3 := by rw [hW2]; simp
    have hg4 : Boxed W2 W.heap.size 3 (.int .i64 (c : Nat)) := by rw [hW2]; exact ((Boxed.new W 3 (.int .i64 (c : Nat))).alloc _).alloc _
    have hz1 : Boxed W2 (W.heap.size + 1) 59 (.slice ax p cx) := by
      have := Boxed.new (W.alloc (.cells #[.int .i64 (c : Nat)] 3)) 59 (.slice ax p cx)
      rw [World.size_alloc] at this
      rw [hW2]; exact this.alloc _
    have hz2 : Boxed W2 (W.heap.size + 1 + 1) 59 (.slice A1 p c1) := by
      have := Boxed.new ((W.alloc (.cells #[.int .i64 (c : Nat)] 3)).alloc (.cells #[.slice ax p cx] 59)) 59 (.slice A1 p c1)
      rw [World.size_alloc, World.size_alloc] at this
      rw [hW2]; exact this
    have hgo2 := blk_below hgo hB2
    have hg32 := boxed_below hg3 hB2
    have hWB2 := below_step hB hB2
    have hcn : cs.setIfInBounds c (.slice none 0 0) = cs := by
      refine Array.ext_getElem? fun i => ?_
      by_cases e : c = i
      · subst e
        rw [hnil c (Nat.le_refl _) hlt]
        simp [hcs, hlt]
      · rw [Array.getElem?_setIfInBounds_ne e]
    clear hW2
    refine (wpIn_wide (n := 9)).1 ?_
    refine wpIn_rangeFunc_ownH (F := Fence.wide) (n := 9) rfl (by decide) (gf := 65) (lb := #[.pointer (some ⟨W.heap.size + 1, 0, none⟩), .pointer (some ⟨W.heap.size + 1 + 1, 0, none⟩)]) rfl trivial (enters_of Try.func65 (by kernel_rfl) rfl)
      (zip_ii_stops (n := 8) (by decide) (W.heap.size + 1) ax A1 cx c1 p (fun i => .int .i64 (fx i)) (fun i => .int .i64 (gs i)) (fun k => k = w1.heap.size ∨ W2.heap.size ≤ k) W2 hz1.cell hz2.cell (by omega) (by omega) ?hc1 ?hc2 (by omega))
      (fun h k => kept_t h k) (fun W l o o' hl ho _ _ => kept_put (.inr hl)) (Below.refl _ _) (fun _ => rfl)
      (fun pre W' => (∃ vc, W'.heap[w1.heap.size]? = some (.cells (cs.setIfInBounds c vc) 59 (0, 0)) ∧ W'.ownsRow W2.heap.size 3 1 vc pre.length (nums .i64 (pre.map fun (j : Fin p) => GL.applyS (fx j) (gs j)))) ∧ Kept W2 W' (fun k => k = w1.heap.size) ∧ Below w.heap.size w W')
      (fun _ _ _ => False)
      (OwnFrom.and (ownFrom_cells (fun pre X Y hs hc => by
        obtain ⟨vc, h1, h2⟩ := hs
        exact ⟨vc, hc _ _ h1 rfl, own_settled h2 hc⟩)) (OwnFrom.and (ownFrom_kept (Nat.le_refl _)) (ownFrom_below (Nat.le_refl _) (by omega))))
      (fun _ _ _ _ _ hs _ _ => hs)
      ⟨⟨.slice none 0 0, by rw [hcn]; exact hgo2, own_nil _ _ _ _⟩, Kept.refl _ _, hWB2⟩
      (fun x a' _ => a' = { tmps := #[.agg #[.slice (some ad) n c0, .slice A1 p c1], .pointer (some ⟨w.heap.size, 0, none⟩), .slice none 0 0, .pointer (some ⟨w1.heap.size + 1, 0, none⟩), .pointer (some ⟨W.heap.size, 0, none⟩), .slice ax p cx, .int .i64 (fx x), .int .i64 (gs x), .agg #[.slice (some ad) n c0, .slice A1 p c1], .bool true, .bool false, .pointer (some ⟨w.heap.size, 0, none⟩), .slice (some ad) n c0, .int .i64 (n : Nat), .slice (some ⟨w1.heap.size, 0, none⟩) n n, .pointer (some ⟨w.heap.size, 0, none⟩), .slice (some ad) n c0, .int .i64 (n : Nat), .int .i64 (c : Nat), .bool true, .int .i64 (c : Nat), .pointer (some (ad.add c)), .slice ax p cx, .slice ax p cx, .pointer (some ⟨w.heap.size, 1, none⟩), .slice A1 p c1, .func (.func 65) #[] #[.pointer (some ⟨W.heap.size + 1, 0, none⟩), .pointer (some ⟨W.heap.size + 1 + 1, 0, none⟩)], .int .i64 (fx x), .int .i64 (gs x), undef, undef, undef, undef, undef, undef, undef, undef, undef, undef, undef, undef, u41, undef], defers := [] }) (fun _ _ _ _ _ _ hs _ _ => hs) ?assign ?body ?done ?stop
    case hc1 =>
      intro i hi
      obtain ⟨ad', hA, hb', hc'⟩ := HX0.out i hi
      exact ⟨ad', hA, by omega, (hWB2.cell (p := ad'.add i) (World.block_lt_of_cell? _ _ hc')).trans hc'⟩
    case hc2 =>
      intro i hi
      obtain ⟨ad', hA, hb', hc'⟩ := HG.out i hi
      exact ⟨ad', hA, by omega, (hWB2.cell (p := ad'.add i) (World.block_lt_of_cell? _ _ hc')).trans hc'⟩
    case assign =>
      intro l pre x W3 K hi hK
      gi_wp2
      exact hK _ _ (KeepsFrom.refl _ _) (Kept.refl _ _) hi rfl
    case body =>
      rintro l pre x a' W3 hl _ ⟨⟨vc, hgo3, howc⟩, hK3, hB3⟩ rfl hltp
      have hW3s := hK3.1
      have b3 := boxed_kept hg32 hK3 (by omega)
      have b4 := boxed_kept hg4 hK3 (by omega)
      have q3 := b3.cell
      have q4 := b4.cell
      have qo : W3.cell? ⟨w1.heap.size, c, none⟩ = some vc := by
        rw [blk_cell hgo3 c]
        simp [hcs, hlt]
      have hmap : (pre ++ [x]).map (fun (j : Fin p) => GL.applyS (fx j) (gs j)) = pre.map (fun (j : Fin p) => GL.applyS (fx j) (gs j)) ++ [GL.applyS (fx x) (gs x)] := by simp
      have HMAP := Lib.hid hmap
      clear hmap
      have hap := GL.applyN (fx x) (gs x) 6 (by decide)
      have hd0 : decide (((c : Nat) : Int) < ((n : Nat) : Int)) = true := decide_eq_true (by omega)
      generalize GL.applyS (fx x) (gs x) = r at *
      generalize fx x = xv at *
      generalize gs x = gv at *
      gi_wp2
      refine startX_ (m := 13) (S := fun w' => w'.cell? ⟨w1.heap.size + 1, 0, none⟩ = some (.slice (some ⟨w1.heap.size, 0, none⟩) n n) ∧ w'.cell? ⟨W.heap.size, 0, none⟩ = some (.int .i64 (c : Nat)) ∧ w'.cell? ⟨w1.heap.size, c, none⟩ = some vc) (ds := [12]) #[false, false, false, false, false, false, false, false, false, false, false, false, false] (fun _ => trivial) (by kernel_rfl) (by kernel_rfl) rfl rfl ⟨q3, q4, qo⟩ (fun hHeld => ?_); refine with_tabX SndIn.tab10 SndIn.bits10 (fun HT_ HW_ => ?_)
      refine pureX_ (i := 6) (N := (some 35)) (v := ?_) (a' := ?_) #[false, false, false, false, false, false, true, false, false, false, false, false, false] rfl rfl (any_of HT_.out (by kernel_rfl)) (fun _ _ _ h => h) (Or.inl ⟨by rfl, ?_⟩) ?_ ?_
      rotate_left
      · intro w'
        go_simp
        with_reducible rfl
      rotate_left
      · simp only [Act.put, List.setIfInBounds_toArray, List.set_cons_zero, List.set_cons_succ, i64_w, i32_w]
        rfl
      refine pureX_ (i := 7) (N := (some 36)) (v := ?_) (a' := ?_) #[false, false, false, false, false, false, true, true, false, false, false, false, false] rfl rfl (any_of HT_.out (by kernel_rfl)) (fun _ _ _ h => h) (Or.inl ⟨by rfl, ?_⟩) ?_ ?_
      rotate_left
      · intro w'
        go_simp
        with_reducible rfl
      rotate_left
      · simp only [Act.put, List.setIfInBounds_toArray, List.set_cons_zero, List.set_cons_succ, i64_w, i32_w]
        rfl
      refine takeX_ (i := 0) (N := (some 29)) (v := ?_) (a' := ?_) #[true, false, false, false, false, false, true, true, false, false, false, false, false] rfl rfl (take_ofW HT_.out HW_.out (by kernel_rfl)) (fun _ _ _ h => h) (Or.inl ⟨by rfl, ?_⟩) hHeld ?_ ?_
      rotate_left
      · intro w' hS_
        go_simp
        obtain ⟨hS1_, hS2_, hS3_⟩ := hS_; go_simp; with_reducible rfl
      rotate_left
      · simp only [Act.put, List.setIfInBounds_toArray, List.set_cons_zero, List.set_cons_succ, i64_w, i32_w]
        rfl
      refine takeX_ (i := 1) (N := (some 30)) (v := ?_) (a' := ?_) #[true, true, false, false, false, false, true, true, false, false, false, false, false] rfl rfl (take_ofW HT_.out HW_.out (by kernel_rfl)) (fun _ _ _ h => h) (Or.inl ⟨by rfl, ?_⟩) hHeld ?_ ?_
      rotate_left
      · intro w' hS_
        go_simp
        obtain ⟨hS1_, hS2_, hS3_⟩ := hS_; go_simp; with_reducible rfl
      rotate_left
      · simp only [Act.put, List.setIfInBounds_toArray, List.set_cons_zero, List.set_cons_succ, i64_w, i32_w]
        rfl
      refine takeX_ (i := 2) (N := (some 31)) (v := ?_) (a' := ?_) #[true, true, true, false, false, false, true, true, false, false, false, false, false] rfl rfl (take_ofW HT_.out HW_.out (by kernel_rfl)) (fun _ _ _ h => h) (Or.inl ⟨by rfl, ?_⟩) hHeld ?_ ?_
      rotate_left
      · intro w' hS_
        go_simp
        obtain ⟨hS1_, hS2_, hS3_⟩ := hS_; go_simp; with_reducible rfl
      rotate_left
      · simp only [Act.put, List.setIfInBounds_toArray, List.set_cons_zero, List.set_cons_succ, i64_w, i32_w]
        rfl
      refine takeX_ (i := 3) (N := (some 32)) (v := ?_) (a' := ?_) #[true, true, true, true, false, false, true, true, false, false, false, false, false] rfl rfl (take_ofW HT_.out HW_.out (by kernel_rfl)) (fun _ _ _ h => h) (Or.inl ⟨by rfl, ?_⟩) hHeld ?_ ?_
      rotate_left
      · intro w' hS_
        go_simp
        obtain ⟨hS1_, hS2_, hS3_⟩ := hS_; go_simp; with_reducible rfl
      rotate_left
      · simp only [Act.put, List.setIfInBounds_toArray, List.set_cons_zero, List.set_cons_succ, i64_w, i32_w]
        rfl
      refine pureX_ (i := 4) (N := (some 33)) (v := ?_) (a' := ?_) #[true, true, true, true, true, false, true, true, false, false, false, false, false] rfl rfl (any_of HT_.out (by kernel_rfl)) (fun _ _ _ h => h) (Or.inl ⟨by rfl, ?_⟩) ?_ ?_
      rotate_left
      · intro w'
        go_simp
        with_reducible rfl
      rotate_left
      · simp only [Act.put, List.setIfInBounds_toArray, List.set_cons_zero, List.set_cons_succ, i64_w, i32_w]
        rfl
      refine takeX_ (i := 5) (N := (some 34)) (v := ?_) (a' := ?_) #[true, true, true, true, true, true, true, true, false, false, false, false, false] rfl rfl (take_ofW HT_.out HW_.out (by kernel_rfl)) (fun _ _ _ h => h) (Or.inl ⟨by rfl, ?_⟩) hHeld ?_ ?_
      rotate_left
      · intro w' hS_
        go_simp
        obtain ⟨hS1_, hS2_, hS3_⟩ := hS_; go_simp; with_reducible rfl
      rotate_left
      · simp only [Act.put, List.setIfInBounds_toArray, List.set_cons_zero, List.set_cons_succ, i64_w, i32_w]
        rfl
      refine oneX_ (i := 8) (N := (some 37)) #[true, true, true, true, true, true, true, true, true, false, false, false, false] rfl rfl (one_of HT_.out (by kernel_rfl)) (by decide) (fun K hK => ?_)
      refine goesX_ Try.func48 (by kernel_rfl) rfl #[.int .i64 xv, .int .i64 gv] (by rfl) rfl rfl (by (try simp only [List.map_toArray, List.map_cons, List.map_nil]); first | done | rfl) ?_
      refine (level_Apply.calls 6 xv gv _ _ hap).mono ?_
      rintro e w5 ⟨rfl, hb5⟩
      refine ⟨_, rfl, ?_⟩
      have howc5 : w5.ownsRow W2.heap.size 3 1 vc pre.length (nums .i64 (pre.map fun (j : Fin p) => GL.applyS (fx j) (gs j))) := own_bel (W := W3.drew) howc hb5
      have hgo5 := blk_below (w := W3.drew) hgo3 hb5
      have hsz5 : W2.heap.size ≤ w5.heap.size := Nat.le_trans hW3s hb5.size
      have b35 := boxed_below (W := W3.drew) b3 hb5
      have b45 := boxed_below (W := W3.drew) b4 hb5
      refine hK.out _ _ ⟨(hb5.cell (p := ⟨w1.heap.size + 1, 0, none⟩) (World.block_lt_of_cell? _ _ q3)).trans q3, (hb5.cell (p := ⟨W.heap.size, 0, none⟩) (World.block_lt_of_cell? _ _ q4)).trans q4, (hb5.cell (p := ⟨w1.heap.size, c, none⟩) (World.block_lt_of_cell? _ _ qo)).trans qo⟩ (fun hHeld => ?_)
      clear hK K
      refine normX_ (a' := ?_) ?_ ?_
      rotate_left
      · show Act.put _ (some 37) _ = _
        simp only [Act.put, List.setIfInBounds_toArray, List.set_cons_zero, List.set_cons_succ, i64_w, i32_w]
        rfl
      refine oneX_ (i := 9) (N := (some 38)) #[true, true, true, true, true, true, true, true, true, true, false, false, false] rfl rfl (one_of HT_.out (by kernel_rfl)) (by decide) (fun K hK => ?_)
      go_simp
      refine hK.out _ _ ⟨cell_al hHeld.1 _, cell_al hHeld.2.1 _, cell_al hHeld.2.2 _⟩ (fun hHeld => ?_)
      clear hK K
      refine normX_ (a' := ?_) ?_ ?_
      rotate_left
      · (try show Act.put _ (some 38) _ = _)
        (try simp only [Act.put, List.setIfInBounds_toArray, List.set_cons_zero, List.set_cons_succ, i64_w, i32_w])
        rfl
      refine oneX_ (i := 10) (N := (some 39)) #[true, true, true, true, true, true, true, true, true, true, true, false, false] rfl rfl (one_of HT_.out (by kernel_rfl)) (by decide) (fun K hK => ?_)
      refine appendX_ W2.heap.size (by kernel_rfl) rfl (.tmp 34) (.tmp 38) 59 3 (.int .i64 0) 8 rfl Try.underlying59 (by kernel_rfl) rfl (by decide) vc pre.length (nums .i64 (pre.map fun (j : Fin p) => GL.applyS (fx j) (gs j))) (.int .i64 r) (by rfl) (by rfl) rfl (show w5.ownsRow _ _ _ _ _ _ from howc5) hsz5 (by omega) ?_
      rintro v1 w6 hown6 hgr6
      obtain ⟨g6, cap6, rfl⟩ := ownsRow_succ hown6
      have hgo6 := blk_grown hgo5 hgr6 (own_ne howc5 hgo5 (by decide))
      have hce6 : w6.cell? ⟨w1.heap.size, c, none⟩ = some vc := (blk_cell hgo6 c).trans (by simp [hcs, hlt])
      have hfr6 := blk_frozen hgo6 c
      have b36 := Boxed.kept b35 hgr6 (own_ne howc5 b35 (by decide))
      have b46 := Boxed.kept b45 hgr6 (fun e => by have := own_base howc5 _ e.symm; omega)
      refine hK.out _ _ ⟨b36.cell, b46.cell, hce6⟩ (fun hHeld => ?_)
      clear hK K
      refine normX_ (a' := ?_) ?_ ?_
      rotate_left
      · (try show Act.put _ (some 39) _ = _)
        (try simp only [Act.put, List.setIfInBounds_toArray, List.set_cons_zero, List.set_cons_succ, i64_w, i32_w])
        rfl
      refine pureX_ (i := 11) (N := (some 40)) (v := ?_) (a' := ?_) #[true, true, true, true, true, true, true, true, true, true, true, true, false] rfl rfl (any_of HT_.out (by kernel_rfl)) (fun _ _ _ h => h) (Or.inl ⟨by rfl, ?_⟩) ?_ ?_
      rotate_left
      · intro w'
        go_simp
        with_reducible rfl
      rotate_left
      · simp only [Act.put, List.setIfInBounds_toArray, List.set_cons_zero, List.set_cons_succ, i64_w, i32_w]
        rfl
      refine lastX_ (i := 12) (N := none) #[true, true, true, true, true, true, true, true, true, true, true, true, true] rfl rfl (one_of HT_.out (by kernel_rfl)) (by decide) (fun K hK => ?_)
      go_simp
      refine hK.out _ _ ?_
      clear hK K
      refine doneX_ (done_of HT_.out (by kernel_rfl)) ?_
      gi_wp2
      have hk4 : Kept W3 (w6.setCell ⟨w1.heap.size, c, none⟩ (.slice (some ⟨g6, 0, none⟩) (pre.length + 1) cap6)) (fun k => k = w1.heap.size ∨ some k = vc.ownBlock) :=
        kept_t (show Kept W3 w5 _ from Kept.of_below (w := W3.drew) hb5 _) (kept_t ((kept_grown hgr6).mono (fun _ h => .inr h)) (kept_set _ (.inl rfl)))
      have hcells : ∀ k, (k = w1.heap.size ∨ some k = vc.ownBlock) → ∀ o, W3.heap[k]? = some o → Obj.isCells o = true := by
        intro k hk o ho
        rcases hk with rfl | hk
        · rw [hgo3] at ho; obtain rfl := Option.some.inj ho; rfl
        · obtain ⟨cells, hc'⟩ := own_typed howc k hk.symm
          rw [hc'] at ho; obtain rfl := Option.some.inj ho; rfl
      have hhigh : ∀ k, (k = w1.heap.size ∨ some k = vc.ownBlock) → k = w1.heap.size ∨ W2.heap.size ≤ k := fun k hk => by
        rcases hk with hk | hk
        · exact .inl hk
        · exact .inr (own_base howc k hk.symm)
      refine ⟨keepsFrom_cells hk4 hcells, hk4.mono hhigh, ⟨.slice (some ⟨g6, 0, none⟩) (pre.length + 1) cap6, ?_, ?_⟩, hK3.then_ hk4 hhigh, (Below.grown (below_step (Below.drew hB3) hb5) hgr6 (below_step (Below.drew hB3) hb5).size (fun k e => by have := own_base howc k e; omega)).setCell (by show _ ≤ w1.heap.size; omega) _⟩
      · have := blk_set hgo6 c (.slice (some ⟨g6, 0, none⟩) (pre.length + 1) cap6)
        rw [Array.setIfInBounds_setIfInBounds] at this
        exact this
      · rw [HMAP.out, nums_append, List.length_append]
        exact own_setCell hown6 (own_ne hown6 hgo6 (by decide)) _
    case done =>
      rintro D zs W5 hDl rfl ⟨⟨vc, hgo5, howc⟩, hK5, hB5⟩ hKD
      rw [List.length_finRange] at howc
      gi_wp2
      go_wp2
      have hKW : ∀ k, k < W.heap.size → k ≠ w1.heap.size → W5.heap[k]? = W.heap[k]? := fun k hk hne => (hK5.2 k (by omega) hne).trans (hB2.block k hk)
      obtain ⟨f, hf⟩ := hD
      refine ⟨⟨c + 1, _, _, _, _, _, _, _, _, _, _, _, _, D :: Ds, cs.setIfInBounds c vc, ⟨by go_num, by omega, ?_, by simp [hcs], hgo5, ?_, hB5, ⟨fun k => if k < W.heap.size then f k else c, ?_⟩, ?_⟩, rfl⟩, by simp [intOf]; omega⟩
      · refine (hM.same fun k o hk ho _ => ?_).cons (by omega) hKD (fun hD' => by have := hM.lt hD'; omega)
        exact (hKW k (Array.getElem?_eq_some_iff.1 ho).1 (by omega)).trans ho
      · exact (hK.then_ (Kept.of_below hB2 (fun k => k = w1.heap.size)) (fun _ h => .inl h)).then_ hK5 (fun _ h => .inl h)
      · intro j hj
        by_cases hjc : j < c
        · obtain ⟨v, h1, h2, h3⟩ := hf j hjc
          refine ⟨v, by rw [Array.getElem?_setIfInBounds_ne (by omega)]; exact h1, own_move h2 (fun k hk => hKW k (own_lt h2 k hk) ?_), fun k hk => by show (if k < W.heap.size then f k else c) = j; rw [if_pos (own_lt h2 k hk)]; exact h3 k hk⟩
          intro e
          exact own_ne h2 hgo (by decide) (by rw [hk, e])
        · obtain rfl : j = c := by omega
          refine ⟨vc, by simp [hcs, hlt], ?_, fun k hk => by have := own_base howc k hk; show (if k < W.heap.size then f k else j) = j; rw [if_neg (by omega)]⟩
          have : rowS (fun i => (xs j).getD i 0) gs p = (List.finRange p).map fun (i : Fin p) => GL.applyS (fx i) (gs i) := by rw [HFX.out]; rfl
          show W5.ownsRow _ _ _ _ _ (nums .i64 (rowS (fun i => (xs j).getD i 0) gs p))
          rw [this]
          exact own_less howc (by omega)
      · intro j h1 h2
        rw [Array.getElem?_setIfInBounds_ne (by omega)]
        exact hnil j (by omega) h2
    case stop =>
      rintro D c' pre W5 hD _ h _
      exact h.elim
  · obtain rfl : c = n := by omega
    have hg3c := hg3.cell
    go_wp2
    refine leavesM (B := w1.heap.size + 2) Ds _ hM ?_
    intro W' ⟨hs, hb⟩
    refine ⟨_, results_tmp rfl _ _ _, _, rfl, ⟨cs, hcs, ?_, ?_⟩, hB.trans (hb.mono (by omega))⟩
    · obtain ⟨f, hf⟩ := hD
      refine ⟨f, fun j hj => ?_⟩
      obtain ⟨v, h1, h2, h3⟩ := hf j hj
      exact ⟨v, h1, own_settled h2 hs, h3⟩
    · refine ⟨by simp [hcs], .inr ⟨w1.heap.size, c, cs, rfl, by omega, hs _ _ hgo rfl, Nat.le_refl _, by unfold maxLen; omega, by omega, ?_⟩⟩
      rw [Nat.mul_one, List.take_of_length_le (by simp [hcs])]
def soundL (l0 : List (List Int)) (l1 : List Int) : List (List Int) := if gainR l0 l1 then l0.map fun x => rowS (fun j => x.getD j 0) (fun j => l1.getD j 0) l1.length else []
def gain_Sound.f (l0 : List (List Int)) (l1 : List Int) : Option (List (List Int)) := if l1.length ≤ 1000000 then some (soundL l0 l1) else none
set_option maxHeartbeats 1000000 in
set_option maxRecDepth 100000 in
theorem gain_Sound_no (A0 A1 : Option Addr) (c0 c1 n p : Nat) (w : World)
    (hR : ∀ W, Below w.heap.size w W → Calls Try.prog 33 #[.agg #[.slice A0 n c0, .slice A1 p c1]] W fun e w' => e = .returned (.bool false) ∧ Below W.heap.size W w') :
    Calls Try.prog 31 #[.agg #[.slice A0 n c0, .slice A1 p c1]] w fun e w' => e = .returned (.slice none 0 0) ∧ Below w.heap.size w w' := by
  have HR := Aside0.mk hR
  clear hR
  have hu61 := Try.underlying61
  refine calls_marks Try.func31 rfl ?_
  simp only [Try.ntmps31, List.size_toArray, List.length_cons, List.length_nil, Nat.reduceAdd, Nat.reduceSub, Array.replicate_succ, Array.replicate_zero, List.push_toArray, List.append_toArray, List.nil_append, List.cons_append]
  go_wp2_with (go_at_call 33; refine (HR.out _ (below_alloc (Below.refl _ _) _)).mono ?_; rintro e w1 ⟨rfl, hb1⟩)
  refine leavesM (B := w.heap.size) [] _ (Marked.nil _ _) ?_
  intro W' ⟨hs, hb⟩
  exact ⟨_, results_tmp rfl _ _ _, rfl, (below_step (below_alloc (Below.refl _ _) _) hb1).trans hb⟩
theorem own_blk_ne {W : World} {b b' : Nat} {e e' : TypeId} {s s' n n' : Nat} {v v' : Value} {xs xs' : List Value} (h : W.ownsRow b e s v n xs) (h' : W.ownsRow b' e' s' v' n' xs') (hne : e ≠ e') (k : Nat) (hk : v.ownBlock = some k) : v'.ownBlock ≠ some k := by
  intro hk'
  rcases own_type_ne h h' hne with h0 | h0
  · rw [h0] at hk; cases hk
  · exact h0 (hk.trans hk'.symm)
theorem S_of_done {xs : Nat → Nat → Int} {gs : Nat → Int} {n p : Nat} {B : Nat} {w' : World} {cs : Array Value} {v : Value} {rows : List (List Int)} (hcs : cs.size = n) (hd : DoneS xs gs p B w' cs n) (ho : w'.ownsRow B 59 1 v n cs.toList) (hrl : rows.length = n) (hrows : ∀ j, j < n → rows.getD j [] = rowS (xs j) gs p) (hp : ∀ j, j < n → (rowS (xs j) gs p).length = p) :
    Kd.S (Kd.slice 3 (Kd.int .i64)) 59 w' B (fun _ => True) v rows := by
  obtain ⟨f, hf⟩ := hd
  refine ⟨f, fun _ _ => trivial, cs.toList, by rw [List.length_zipIdx, hrl]; exact ho, ?_, ?_⟩
  · rw [List.length_zipIdx, hrl]
    show cs.toList.length = n * 1
    simp [hcs]
  · rintro j ⟨x, i⟩ hj
    rw [List.getElem?_zipIdx] at hj
    obtain ⟨y, hy, he⟩ := Option.map_eq_some_iff.1 hj
    simp only [Nat.zero_add, Prod.mk.injEq] at he
    obtain ⟨rfl, rfl⟩ := he
    have hjn : j < n := by rw [← hrl]; exact (List.getElem?_eq_some_iff.1 hy).1
    obtain ⟨u, h1, h2, h3⟩ := hf j hjn
    have hyr : y = rowS (xs j) gs p := by
      rw [← hrows j hjn, List.getD_eq_getElem?_getD, hy]; rfl
    have hl : j < cs.toList.length := by simp [hcs]; exact hjn
    have hcell : (cs.toList.drop (j * 1)).take 1 = [u] := by
      rw [Nat.mul_one, List.drop_eq_getElem_cons hl]
      have : cs.toList[j] = u := by
        have h5 : cs.toList[j]? = some u := by rw [← h1]; simp
        rw [List.getElem?_eq_getElem hl] at h5
        exact Option.some.inj h5
      rw [this]; rfl
    refine ⟨u, hcell, ?_⟩
    subst hyr
    refine Kd.R_of_own (enc := Value.int .i64) ?_ (fun k hk => ⟨⟨trivial, ?_⟩, h3 k hk⟩)
    · rw [hp j hjn]; exact h2
    · exact fun e => own_blk_ne h2 ho (by decide) k hk e.symm
theorem gain_Sound.calls (A0_0 : Option Addr) (c0_0 : Nat) (l0_0 : List (List Int)) (A0_1 : Option Addr) (c0_1 : Nat) (l0_1 : List Int) (r : List (List Int)) (w : World) (hr0_0 : Kd.C (Kd.slice 3 (Kd.int .i64)) w A0_0 l0_0.length l0_0) (hc0_0 : l0_0.length ≤ c0_0) (hr0_1 : Kd.C (Kd.int .i64) w A0_1 l0_1.length l0_1) (hc0_1 : l0_1.length ≤ c0_1) (h : gain_Sound.f l0_0 l0_1 = some r) :
    Calls Try.prog 31 #[.agg #[.slice A0_0 l0_0.length c0_0, .slice A0_1 l0_1.length c0_1]] w fun e w' => ∃ v0_ : Value, e = .returned (v0_) ∧ Kd.S (Kd.slice 3 (Kd.int .i64)) 59 w' w.heap.size (fun _ => True) v0_ r ∧ Below w.heap.size w w' := by
  unfold gain_Sound.f at h
  by_cases hp : l0_1.length ≤ 1000000
  · rw [if_pos hp] at h
    obtain rfl := Option.some.inj h
    clear h
    have hR : ∀ W, Below w.heap.size w W → Calls Try.prog 33 #[.agg #[.slice A0_0 l0_0.length c0_0, .slice A0_1 l0_1.length c0_1]] W fun e w' => e = .returned (.bool (gainR l0_0 l0_1)) ∧ Below W.heap.size W w' :=
      fun W hW => gain_Right.calls A0_0 c0_0 l0_0 A0_1 c0_1 l0_1 _ W (Kd.C_below hr0_0 hW) hc0_0 (Kd.C_below hr0_1 hW) hc0_1 rfl
    cases hg : gainR l0_0 l0_1 with
    | false =>
      rw [hg] at hR
      refine (gain_Sound_no A0_0 A0_1 c0_0 c0_1 _ _ w hR).mono ?_
      rintro e w' ⟨rfl, hb⟩
      refine ⟨_, rfl, ?_, hb⟩
      rw [soundL, hg, if_neg (by decide)]
      exact Kd.S_nil _ _ _ _ _
    | true =>
      rw [hg] at hR
      obtain ⟨aa, ca, hx⟩ := IdxX.rows_open hr0_0
      have hgr := hg
      unfold gainR at hgr
      simp only [Bool.and_eq_true, decide_eq_true_eq, Bool.not_eq_true', List.any_eq_false] at hgr
      obtain ⟨⟨h12, _⟩, hbad⟩ := hgr
      have hlen : ∀ i, i < l0_0.length → (l0_0.getD i []).length = l0_1.length := by
        intro i hi
        have hm : l0_0.getD i [] ∈ l0_0 := by
          rw [List.getD_eq_getElem?_getD, List.getElem?_eq_getElem hi]
          exact List.getElem_mem hi
        have := hbad _ hm
        unfold gainBad at this
        simp only [Bool.or_eq_true, decide_eq_true_eq, not_or, Decidable.not_not] at this
        exact this.1
      refine (gain_Sound_eq A0_0 A0_1 c0_0 c0_1 l0_0.length l0_1.length (fun i => l0_0.getD i []) aa ca (fun j => l0_1.getD j 0) w (by omega) hp ?_ (row_cells hr0_1) hR).mono ?_
      · intro i hi
        obtain ⟨ad, hA, hle, hC, hc⟩ := hx i hi
        have hb := World.block_lt_of_cell? _ _ hc
        rw [addr_add_block] at hb
        rw [hlen i hi] at hc
        exact ⟨ad, hA, hb, hlen i hi, hC, hc⟩
      · rintro e w' ⟨v, rfl, ⟨cs, hcs, hd, ho⟩, hb⟩
        refine ⟨v, rfl, ?_, hb⟩
        rw [soundL, hg, if_pos rfl]
        refine S_of_done hcs hd ho (by simp) (fun j hj => ?_) (fun j _ => by simp [rowS])
        simp [List.getD_eq_getElem?_getD, hj]
  · rw [if_neg hp] at h
    cases h
end

-- NOT PRINTED: function 57 (gain_zip_int_int_57)

-- NOT PRINTED: function 58 (gain_near)

/-! ### num_Abs: function 59 -/
def num_Abs.f (k : Nat) (a0 : Int) : Option (Int) := (num_within.f k 4611686018427387904 (([a0] : List Int))).bind fun t121 => (if t121 = true then (if a0 < 0 then (some (wrap64 (-a0))) else (some a0)) else (some 0))
theorem num_Abs.mono : ∀ a0 k, LeO (num_Abs.f k a0) (num_Abs.f (k + 1) a0) := by
  intro a0 k
  unfold num_Abs.f
  repeat' first
      | (with_reducible exact num_within.mono _ _ _)
      | (with_reducible exact LeO.refl _)
      | (with_reducible exact LeO.none _)
      | (with_reducible refine LeO.ite ?_ ?_)
      | (with_reducible refine LeO.bind ?_ (fun _ => ?_))
      | exact num_within.mono _ _ _
      | exact LeO.none _
      | refine LeO.ite ?_ ?_
      | refine LeO.bind ?_ (fun _ => ?_)
set_option maxHeartbeats 8000000 in
set_option maxRecDepth 100000 in
theorem num_Abs.calls (k : Nat) (a0 : Int) (r : Int) (w : World) (h : num_Abs.f k a0 = some r) :
    Calls Try.prog 59 #[.int .i64 a0] w fun e w' => e = .returned (.int .i64 r) ∧ Below w.heap.size w w' := by
  have HB := Aside0.mk (Below.refl w.heap.size w)
  have H : ((num_within.f k 4611686018427387904 (([a0] : List Int))).bind fun t121 => (if t121 = true then (if a0 < 0 then (some (wrap64 (-a0))) else (some a0)) else (some 0))) = some r := h
  clear h
  obtain ⟨y118, hy118⟩ : ∃ y_ : List Int, y_ = (([a0] : List Int)) := ⟨_, rfl⟩
  replace H : ((num_within.f k 4611686018427387904 y118).bind fun t121 => (if t121 = true then (if a0 < 0 then (some (wrap64 (-a0))) else (some a0)) else (some 0))) = some r := by first | (rw [hy118]; with_reducible exact H) | (have H2_ := (Option.bind_some _ _).symm.trans H; rw [hy118]; with_reducible exact H2_) | (have H2_ := (Option.bind_some _ _).symm.trans H; with_reducible exact H2_) | with_reducible exact H | (rw [hy118]; exact H) | exact H
  have Ny118 := Aside0.mk hy118
  clear hy118
  replace H := Option.bind_eq_some_iff.mp H
  obtain ⟨t121, A20, H⟩ := H
  replace H : (if t121 = true then (if a0 < 0 then (some (wrap64 (-a0))) else (some a0)) else (some 0)) = some r := H
  have A2 := Aside0.mk A20
  clear A20
  by_cases c3 : t121 = true
  · subst c3
    have H1 : (if a0 < 0 then (some (wrap64 (-a0))) else (some a0)) = some r := by rw [if_pos rfl] at H; exact H
    clear H
    have H := H1
    clear H1
    by_cases c4 : a0 < 0
    · rw [if_pos c4] at H
      have c4b0 : decide (a0 < 0) = true := decide_eq_true c4
      clear c4
      obtain rfl := Option.some.inj H
      go_enter Try.func59, Try.ntmps59
      go_wp2_with (first | ((with_reducible refine gate_dst (N := 5) rfl ?_); refine Kd.R_lit (Kd.int .i64) _ 3 ?hg (N := 5) ?hd (xs := ([a0] : List Int)) (inner := [.int .i64 a0]) (ok := fun _ => True) (okp := fun _ => True) ?hr ?hp (fun _ hk => hk) trivial (Below.refl _ _) (Nat.le_refl _) (by simp) ?_; (case hd => rfl); (case hg => rfl); (case hr => first | (go_simp; done) | (go_simp; rfl)); (case hp => exact (Reps.one (show Kd.M (Kd.int .i64) _ _ _ a0 [.int .i64 a0] from rfl) (Reps.none _ _))); intro v119 w5 ho6 hb hg_ hnew_; clear hg_ hnew_; (first | rw [← Ny118.out] at ho6 | (simp only [Int.reduceToNat] at ho6; rw [← Ny118.out] at ho6)); have n0_ := Aside0.mk (Kd.R_lower ho6 (below_size (by repeat (first | (with_reducible first | exact HB.out | apply below_alloc | apply pw_below_drewN | apply below_drew1) | exact HB.out)))); have n1_ := Aside0.mk (below_step (by repeat (first | (with_reducible first | exact HB.out | apply below_alloc | apply pw_below_drewN | apply below_drew1) | exact HB.out)) hb); clear HB; have HO120 := n0_; have HB := n1_; clear n0_ n1_; clear hb ho6; obtain ⟨Ao7, co7, eo7⟩ := Kd.R_slice HO120.out; subst eo7) | ((with_reducible refine gate_callee (f := 62) rfl ?_); refine goesL_ (some 6) rfl rfl Try.func62 (by kernel_rfl) rfl #[.int .i64 4611686018427387904, .slice Ao7 y118.length co7] rfl (by (try simp only [List.map_toArray, List.map_cons, List.map_nil]); first | done | rfl | (simp only [List.length_drop, List.length_take]; rfl)) ?_; (with_reducible refine (num_within.calls k 4611686018427387904 _ _ y118 true _ ?side1 ?side2 A2.out).mono ?_); (case side1 => repeat (first | exact (Kd.R_reads' HO120.out).2.2 | (with_reducible refine Kd.C_alloc ?_ _) | (with_reducible refine Kd.C_drewN ?_ _) | (with_reducible refine Kd.C_drew ?_))); (case side2 => exact (Kd.R_reads' HO120.out).2.1); rintro e w' ⟨rfl, ⟨nd, rfl⟩⟩; refine ⟨_, rfl, ?_⟩))
      go_ret
      exact ⟨by first | rfl | (simp [errW_none, errW_some] <;> rfl) | (simp [*, errW_none, errW_some] <;> rfl), by repeat (first | (with_reducible first | exact HB.out | apply below_alloc | apply pw_below_drewN | apply below_drew1) | exact HB.out)⟩
    · rw [if_neg c4] at H
      have c4b0 : decide (a0 < 0) = false := decide_eq_false c4
      clear c4
      obtain rfl := Option.some.inj H
      go_enter Try.func59, Try.ntmps59
      go_wp2_with (first | ((with_reducible refine gate_dst (N := 5) rfl ?_); refine Kd.R_lit (Kd.int .i64) _ 3 ?hg (N := 5) ?hd (xs := ([a0] : List Int)) (inner := [.int .i64 a0]) (ok := fun _ => True) (okp := fun _ => True) ?hr ?hp (fun _ hk => hk) trivial (Below.refl _ _) (Nat.le_refl _) (by simp) ?_; (case hd => rfl); (case hg => rfl); (case hr => first | (go_simp; done) | (go_simp; rfl)); (case hp => exact (Reps.one (show Kd.M (Kd.int .i64) _ _ _ a0 [.int .i64 a0] from rfl) (Reps.none _ _))); intro v119 w8 ho9 hb hg_ hnew_; clear hg_ hnew_; (first | rw [← Ny118.out] at ho9 | (simp only [Int.reduceToNat] at ho9; rw [← Ny118.out] at ho9)); have n0_ := Aside0.mk (Kd.R_lower ho9 (below_size (by repeat (first | (with_reducible first | exact HB.out | apply below_alloc | apply pw_below_drewN | apply below_drew1) | exact HB.out)))); have n1_ := Aside0.mk (below_step (by repeat (first | (with_reducible first | exact HB.out | apply below_alloc | apply pw_below_drewN | apply below_drew1) | exact HB.out)) hb); clear HB; have HO120 := n0_; have HB := n1_; clear n0_ n1_; clear hb ho9; obtain ⟨Ao10, co10, eo10⟩ := Kd.R_slice HO120.out; subst eo10) | ((with_reducible refine gate_callee (f := 62) rfl ?_); refine goesL_ (some 6) rfl rfl Try.func62 (by kernel_rfl) rfl #[.int .i64 4611686018427387904, .slice Ao10 y118.length co10] rfl (by (try simp only [List.map_toArray, List.map_cons, List.map_nil]); first | done | rfl | (simp only [List.length_drop, List.length_take]; rfl)) ?_; (with_reducible refine (num_within.calls k 4611686018427387904 _ _ y118 true _ ?side1 ?side2 A2.out).mono ?_); (case side1 => repeat (first | exact (Kd.R_reads' HO120.out).2.2 | (with_reducible refine Kd.C_alloc ?_ _) | (with_reducible refine Kd.C_drewN ?_ _) | (with_reducible refine Kd.C_drew ?_))); (case side2 => exact (Kd.R_reads' HO120.out).2.1); rintro e w' ⟨rfl, ⟨nd, rfl⟩⟩; refine ⟨_, rfl, ?_⟩))
      go_ret
      exact ⟨by first | rfl | (simp [errW_none, errW_some] <;> rfl) | (simp [*, errW_none, errW_some] <;> rfl), by repeat (first | (with_reducible first | exact HB.out | apply below_alloc | apply pw_below_drewN | apply below_drew1) | exact HB.out)⟩
  · replace c3 := Bool.eq_false_iff.mpr c3
    subst c3
    have H1 : (some 0) = some r := by rw [if_neg (show ¬ (false = true) by decide)] at H; exact H
    clear H
    have H := H1
    clear H1
    obtain rfl := Option.some.inj H
    go_enter Try.func59, Try.ntmps59
    go_wp2_with (first | ((with_reducible refine gate_dst (N := 5) rfl ?_); refine Kd.R_lit (Kd.int .i64) _ 3 ?hg (N := 5) ?hd (xs := ([a0] : List Int)) (inner := [.int .i64 a0]) (ok := fun _ => True) (okp := fun _ => True) ?hr ?hp (fun _ hk => hk) trivial (Below.refl _ _) (Nat.le_refl _) (by simp) ?_; (case hd => rfl); (case hg => rfl); (case hr => first | (go_simp; done) | (go_simp; rfl)); (case hp => exact (Reps.one (show Kd.M (Kd.int .i64) _ _ _ a0 [.int .i64 a0] from rfl) (Reps.none _ _))); intro v119 w11 ho12 hb hg_ hnew_; clear hg_ hnew_; (first | rw [← Ny118.out] at ho12 | (simp only [Int.reduceToNat] at ho12; rw [← Ny118.out] at ho12)); have n0_ := Aside0.mk (Kd.R_lower ho12 (below_size (by repeat (first | (with_reducible first | exact HB.out | apply below_alloc | apply pw_below_drewN | apply below_drew1) | exact HB.out)))); have n1_ := Aside0.mk (below_step (by repeat (first | (with_reducible first | exact HB.out | apply below_alloc | apply pw_below_drewN | apply below_drew1) | exact HB.out)) hb); clear HB; have HO120 := n0_; have HB := n1_; clear n0_ n1_; clear hb ho12; obtain ⟨Ao13, co13, eo13⟩ := Kd.R_slice HO120.out; subst eo13) | ((with_reducible refine gate_callee (f := 62) rfl ?_); refine goesL_ (some 6) rfl rfl Try.func62 (by kernel_rfl) rfl #[.int .i64 4611686018427387904, .slice Ao13 y118.length co13] rfl (by (try simp only [List.map_toArray, List.map_cons, List.map_nil]); first | done | rfl | (simp only [List.length_drop, List.length_take]; rfl)) ?_; (with_reducible refine (num_within.calls k 4611686018427387904 _ _ y118 false _ ?side1 ?side2 A2.out).mono ?_); (case side1 => repeat (first | exact (Kd.R_reads' HO120.out).2.2 | (with_reducible refine Kd.C_alloc ?_ _) | (with_reducible refine Kd.C_drewN ?_ _) | (with_reducible refine Kd.C_drew ?_))); (case side2 => exact (Kd.R_reads' HO120.out).2.1); rintro e w' ⟨rfl, ⟨nd, rfl⟩⟩; refine ⟨_, rfl, ?_⟩))
    go_ret
    exact ⟨by first | rfl | (simp [errW_none, errW_some] <;> rfl) | (simp [*, errW_none, errW_some] <;> rfl), by repeat (first | (with_reducible first | exact HB.out | apply below_alloc | apply pw_below_drewN | apply below_drew1) | exact HB.out)⟩

end Go.Proofs.Ytaoodgijapiipaa.S
