-- Written for this claim by a program of the session (myprint.py), out of the translation's own print; Lean checks it.
import Derived.Test.YthdlikiakegekaaIx0
import Derived.Test.YthdlikiakegekaaIx1
import Derived.Test.YthdlikiakegekaaIx2
namespace Go.Proofs.Ythdlikiakegekaa.S
open Go.RowKit Go.Proofs.YthdlikiakegekaaW.PrintWords Go.Proofs.YthdlikiakegekaaW.PrintLast Go.Proofs.YthdlikiakegekaaW.PrintMore
attribute [local go_sem] max2_int min2_int max_two min_two max_three min_three max_four min_four   -- for this text's walks alone
set_option linter.unusedVariables false
set_option linter.unusedSimpArgs false

attribute [local go_sem high] eqA53
/-! ### octet_Reader_Num: function 51 -/
/-- A row of bytes, cell by cell. -/
def OctRow (w : World) (g : Nat) (l : List UInt8) : Prop := ∀ j, j < l.length → w.cell? ⟨g, j, none⟩ = some (.int .u8 (l.getD j 0).toNat)
theorem OctRow.below {w w1 : World} {g : Nat} {l : List UInt8} (h : OctRow w g l) (hg : g < w.heap.size) (hb : Below w.heap.size w w1) : OctRow w1 g l :=
  fun j hj => (hb.cell (p := ⟨g, j, none⟩) hg).trans (h j hj)
theorem oct_conv (w : World) (s : ByteArray) : ∃ W1 cap, Sem.run Try.prog (Go.convert 9 38 (.string s)) w = .ok (.slice (some ⟨w.heap.size, 0, none⟩) s.size cap) W1 ∧
    OctRow W1 w.heap.size s.data.toList ∧ Below w.heap.size w W1 ∧ w.heap.size < W1.heap.size := by
  refine ⟨_, _, Lib.run_convert_string_bytes w 9 38 5 s Try.underlying9 Try.underlying38 Try.underlying5, ?_, ?_, ?_⟩
  · intro j hj
    exact Lib.bytesWorld_cell w 5 s j (by simpa using hj)
  · exact ⟨rfl, rfl, rfl, by rw [Lib.bytesWorld_size]; omega, fun i hi => Lib.bytesWorld_at_old w 5 s i hi⟩
  · rw [Lib.bytesWorld_size]; omega
/-- The number that octets tell, the highest first. -/
def beVal (l : List UInt8) : Nat := l.foldl (fun n b => n * 256 + b.toNat) 0
theorem beVal_snoc (l : List UInt8) (b : UInt8) : beVal (l ++ [b]) = beVal l * 256 + b.toNat := by simp [beVal]
theorem beVal_from (l : List UInt8) : ∀ n : Nat, l.foldl (fun n b => n * 256 + b.toNat) n < (n + 1) * 256 ^ l.length := by
  induction l with
  | nil => intro n; simp
  | cons b l ih =>
    intro n
    rw [List.foldl_cons]
    refine Nat.lt_of_lt_of_le (ih _) ?_
    rw [List.length_cons, Nat.pow_succ, Nat.mul_comm (256 ^ l.length) 256, ← Nat.mul_assoc]
    refine Nat.mul_le_mul_right _ ?_
    have := b.toNat_lt
    omega
theorem beVal_lt (l : List UInt8) : beVal l < 256 ^ l.length := by
  have := beVal_from l 0
  rw [Nat.zero_add, Nat.one_mul] at this
  exact this
theorem beVal_lt7 (l : List UInt8) (h : l.length ≤ 6) : beVal l < 281474976710656 := Nat.lt_of_lt_of_le (beVal_lt l) (Nat.le_trans (Nat.pow_le_pow_right (by decide) h) (by decide))
theorem or_byte (n b : Nat) (hn : n < 281474976710656) (hb : b < 256) : Go.bits .or .i64 ((n : Int) * 256) (b : Int) = ((n * 256 + b : Nat) : Int) := by
  have e : (n : Int) * 256 = ((n * 256 : Nat) : Int) := by simp
  have ha' : (n * 256) % 2 ^ IntKind.i64.bits = n * 256 := Nat.mod_eq_of_lt (show n * 256 < 18446744073709551616 by omega)
  have hb' : b % 2 ^ IntKind.i64.bits = b := Nat.mod_eq_of_lt (show b < 18446744073709551616 by omega)
  have hor : (n * 256) ||| b = n * 256 + b := by
    have := Nat.two_pow_add_eq_or_of_lt (i := 8) (b := b) hb n
    rw [Nat.mul_comm n 256]; exact this.symm
  rw [e]
  simp only [Go.bits, BitVec.ofInt_natCast, BitVec.toNat_or, BitVec.toNat_ofNat, ha', hb', hor]
  rw [i64_w]; unfold wrap64; omega
theorem oct_text_size (s0_0 : ByteArray) (s0_1 : Int) (s0_2 : Bool) (a1 : Int) (r1 r2 : ByteArray) (r3 : Int) (r4 : Bool) (h : octet_Reader_Text.f s0_0 s0_1 s0_2 a1 = some (r1, r2, r3, r4)) : r1.size ≤ a1.toNat := by
  unfold octet_Reader_Text.f octet_Reader_Bad.f at h
  rw [Option.bind_some] at h
  repeat' split at h
  all_goals first | (cases h; done) | (simp only [Option.some.injEq, Prod.mk.injEq] at h; obtain ⟨rfl, _, _, _⟩ := h; first | (rw [ByteArray.size_extract]; omega) | exact Nat.zero_le _)
def octet_Reader_Num.f (s0_0 : ByteArray) (s0_1 : Int) (s0_2 : Bool) (a1 : Int) : Option (Int × ByteArray × Int × Bool) :=
  (octet_Reader_Text.f s0_0 s0_1 s0_2 (if a1 < 1 ∨ 7 < a1 then -1 else a1)).bind fun t => some (((beVal t.1.data.toList : Nat) : Int), t.2.1, t.2.2.1, t.2.2.2)
set_option maxHeartbeats 2000000 in
set_option maxRecDepth 100000 in
theorem octet_Reader_Num.calls (g : Nat) (s0_0 : ByteArray) (s0_1 : Int) (s0_2 : Bool) (a1 : Int) (r1 : Int) (r2 : ByteArray) (r3 : Int) (r4 : Bool) (w0 w : World) (hI : IsS95 w0 w g s0_0 s0_1 s0_2) (hB : Below w0.heap.size w0 w) (h : octet_Reader_Num.f s0_0 s0_1 s0_2 a1 = some (r1, r2, r3, r4)) :
    Calls Try.prog 51 #[.pointer (some ⟨g, 0, none⟩), .int .i64 a1] w fun e w' => e = .returned (.int .i64 r1) ∧ IsS95 w0 w' g r2 r3 r4 ∧ Below w0.heap.size w0 w' ∧ KeepBut w w' g none := by
  obtain ⟨⟨t, q2, q3, q4⟩, hT, h⟩ := Option.bind_eq_some_iff.1 h
  simp only [Option.some.injEq, Prod.mk.injEq] at h
  obtain ⟨rfl, rfl, rfl, rfl⟩ := h
  have hts := oct_text_size _ _ _ _ _ _ _ _ hT
  have ht7 : t.size ≤ 7 := by
    split at hts <;> omega
  clear hts
  have hcase : (a1 < 1 ∧ octet_Reader_Text.f s0_0 s0_1 s0_2 (-1) = some (t, q2, q3, q4)) ∨ (¬ a1 < 1 ∧ 7 < a1 ∧ octet_Reader_Text.f s0_0 s0_1 s0_2 (-1) = some (t, q2, q3, q4)) ∨ (¬ a1 < 1 ∧ ¬ 7 < a1 ∧ octet_Reader_Text.f s0_0 s0_1 s0_2 a1 = some (t, q2, q3, q4)) := by
    by_cases h1 : a1 < 1
    · rw [if_pos (.inl h1)] at hT; exact .inl ⟨h1, hT⟩
    · by_cases h2 : 7 < a1
      · rw [if_pos (.inr h2)] at hT; exact .inr (.inl ⟨h1, h2, hT⟩)
      · rw [if_neg (by omega)] at hT; exact .inr (.inr ⟨h1, h2, hT⟩)
  clear hT
  have HI := Aside0.mk hI
  have HB := Aside0.mk hB
  clear hI hB
  rcases hcase with ⟨h1, hT⟩ | ⟨h1, h2, hT⟩ | ⟨h1, h2, hT⟩
  all_goals
    have HT := Aside0.mk hT
    clear hT
    go_enter Try.func51, Try.ntmps51
    go_wp2_with (go_at_call 50; refine (octet_Reader_Text.calls g s0_0 s0_1 s0_2 _ t q2 q3 q4 w0 _ HI.out HB.out (by exact HT.out)).mono ?_; rintro e w1 ⟨rfl, hI1, hB1, hK1⟩; obtain ⟨W1, cap, hcv, hrow, hBW, hg⟩ := oct_conv w1 t)
    have HI1 := Aside0.mk hI1
    have HB1 := Aside0.mk hB1
    have HK1 := Aside0.mk hK1
    have HR := Aside0.mk hrow
    have HBW := Aside0.mk hBW
    clear hI1 hB1 hK1 hrow hBW hcv
    go_loopw [19, 5] (fun v n wr => ∃ (i m q : Nat), i ≤ t.size ∧ v = .int .i64 i ∧ n = .int .i64 m ∧ Hid (m = beVal (t.data.toList.take i)) ∧ wr = W1.drewN q) (fun v _ _ => t.size - (intOf v).toNat)
    case atStart => exact ⟨0, 0, 0, Nat.zero_le _, rfl, rfl, Lib.hid (by simp [beVal]), rfl⟩
    case round =>
      obtain ⟨i, m, q, hi, rfl, rfl, hm, rfl⟩ := hrel
      by_cases hlt : i < t.size
      · have hm48 : m < 281474976710656 := by rw [hm.out]; exact beVal_lt7 _ (by rw [List.length_take]; omega)
        have hcl := HR.out i (by simpa using hlt)
        obtain ⟨c, hc⟩ : ∃ c, c = (t.data.toList.getD i 0).toNat := ⟨_, rfl⟩
        rw [← hc] at hcl
        have hc256 : c < 256 := by rw [hc]; exact UInt8.toNat_lt _
        have HC := Lib.hid hc
        clear hc
        have hor := or_byte m c hm48 hc256
        go_wp2
        go_roundw
        case rel =>
          refine ⟨i + 1, m * 256 + c, q, by omega, by go_num, by rfl, ?_, rfl⟩
          refine Lib.hid ?_
          have hlt' : i < t.data.toList.length := by simpa using hlt
          rw [List.take_succ_eq_append_getElem hlt', beVal_snoc, ← hm.out, HC.out]
          rw [List.getD_eq_getElem?_getD, List.getElem?_eq_getElem hlt']; rfl
        case measure => simp [intOf]; omega
      · obtain rfl : i = t.size := by omega
        go_wp2
        go_ret
        refine ⟨?_, ?_, ?_, ?_⟩
        · rw [hm.out, List.take_of_length_le (by simp)]; rfl
        · exact (HI1.out.below HBW.out).drewN q
        · exact pw_below_drewN (below_step HB1.out HBW.out) q
        · exact keep_drewN (HK1.out.trans (KeepBut.of_below HBW.out g none) (.inl rfl)) q

/-! ### index_Get: function 27 -/
section
def be4 (L : List UInt8) (o : Nat) : Int := ((beVal ((L.drop o).take 4) : Nat) : Int)
def slotAt (L : List UInt8) (i : Nat) : S53 := ⟨be4 L (8 * i), be4 L (8 * i + 4)⟩
def slotsAt (L : List UInt8) (m : Nat) : List S53 := (List.range m).map (slotAt L)
def index_Get.f (k : Nat) (l0 : List Int) (a1 : ByteArray) (a2 : Int) : Option (List S53 × Int) :=
  if l0 = CrcX.crcTab ∧ a1.size ≤ 100000 then
    (if a2 < 0 ∨ 262144 < a2 then some ([], 1)
     else if (a1.size : Int) < 8 * a2 + 4 then some ([], 2)
     else if be4 a1.data.toList (8 * a2.toNat) = ((CrcLem.sumN 0 (a1.data.toList.take (8 * a2.toNat)) : Nat) : Int) then
       (index_Right.f k (slotsAt a1.data.toList a2.toNat)).bind fun t => (if t = true then some (slotsAt a1.data.toList a2.toNat, 0) else some ([], 4))
     else some ([], 5))
  else none
theorem index_Get.mono : ∀ a0 a1 a2 k, LeO (index_Get.f k a0 a1 a2) (index_Get.f (k + 1) a0 a1 a2) := by
  intro a0 a1 a2 k r h
  unfold index_Get.f at h ⊢
  by_cases c0 : a0 = CrcX.crcTab ∧ a1.size ≤ 100000
  · rw [if_pos c0] at h ⊢
    by_cases c1 : a2 < 0 ∨ 262144 < a2
    · rw [if_pos c1] at h ⊢; exact h
    · rw [if_neg c1] at h ⊢
      by_cases c2 : (a1.size : Int) < 8 * a2 + 4
      · rw [if_pos c2] at h ⊢; exact h
      · rw [if_neg c2] at h ⊢
        by_cases c3 : be4 a1.data.toList (8 * a2.toNat) = ((CrcLem.sumN 0 (a1.data.toList.take (8 * a2.toNat)) : Nat) : Int)
        · rw [if_pos c3] at h ⊢
          obtain ⟨t, h1, h2⟩ := Option.bind_eq_some_iff.1 h
          rw [index_Right.mono _ _ _ h1]
          exact h2
        · rw [if_neg c3] at h ⊢; exact h
  · rw [if_neg c0] at h; cases h
def IdxGet14.T14 : Bool × List (List Nat × List Nat) := (true, [([], []), ([0], [0]), ([], []), ([], []), ([], []), ([4], [4]), ([3, 5], [3, 5]), ([2, 6, 1], [2, 6]), ([7], [7]), ([1, 8], [1, 8]), ([9, 7], [9])])
def IdxGet14.B14 : List Nat := [0, 1, 0, 0, 0, 16, 56, 127, 255, 511, 1023]
theorem IdxGet14.tab14 : rtab .any (opsOf Try.f27 14) = IdxGet14.T14 := by kernel_rfl
theorem IdxGet14.bits14 : waitsOk IdxGet14.T14.2 IdxGet14.B14 = true := by kernel_rfl
/- 0:move>53; 1:call>54; 2:move>55; 3:move>56; 4:move>57; 5:binOp>58; 6:slice>59; 7:call>60; 8:convert>61; 9:binOp>62; 10:assign>52 -/
theorem ig_read (x r : List UInt8) (hx : x.length = 4) (sz : Int) : octet_Reader_Num.f ⟨(x ++ r).toArray⟩ sz true 4 = some (((beVal x : Nat) : Int), ⟨r.toArray⟩, sz, true) := by
  unfold octet_Reader_Num.f octet_Reader_Text.f octet_Reader_Bad.f
  have sizeB : ∀ L : List UInt8, (⟨L.toArray⟩ : ByteArray).size = L.length := fun L => by show L.toArray.size = _; simp
  have e1 : (⟨(x ++ r).toArray⟩ : ByteArray).extract 0 4 = ⟨x.toArray⟩ := by apply ByteArray.ext; simp [← hx]
  have e2 : (⟨(x ++ r).toArray⟩ : ByteArray).extract 4 (⟨(x ++ r).toArray⟩ : ByteArray).size = ⟨r.toArray⟩ := by
    rw [sizeB]; apply ByteArray.ext; simp [← hx]
  have hs := sizeB (x ++ r)
  rw [List.length_append, hx] at hs
  simp only [Option.bind_some, if_neg (show ¬ ((4 : Int) < 1 ∨ 7 < (4 : Int)) by omega)]
  rw [if_neg (by decide), if_neg (by omega), if_neg (by rw [hs]; omega), if_pos (by omega), if_pos (by rw [hs]; omega)]
  simp only [Option.bind_some, show ((4 : Int)).toNat = 4 from rfl]
  rw [e1, e2]
theorem ig_at (L : List UInt8) (n o : Nat) (ho : o + 4 ≤ n) (hn : n ≤ L.length) (sz : Int) : octet_Reader_Num.f ⟨((L.take n).drop o).toArray⟩ sz true 4 = some (be4 L o, ⟨((L.take n).drop (o + 4)).toArray⟩, sz, true) := by
  have e : (L.take n).drop o = (L.drop o).take 4 ++ (L.take n).drop (o + 4) := by
    rw [List.drop_take, List.drop_take, ← List.drop_drop]
    have := List.take_append_drop 4 ((L.drop o).take (n - o))
    rw [List.take_take, List.drop_take, show min 4 (n - o) = 4 by omega, show n - o - 4 = n - (o + 4) by omega] at this
    exact this.symm
  rw [e]
  exact ig_read _ _ (by rw [List.length_take, List.length_drop]; omega) sz
theorem ig_made {W : World} {base B m : Nat} {v : Value} (h : Kd.R k53 53 W base (fun _ => True) v (List.replicate m z53)) (hb : ∃ b, v.ownBlock = some b ∧ B ≤ b) :
    ∃ g cap, ∃ cur : Array Value, v = .slice (some ⟨g, 0, none⟩) m cap ∧ base ≤ g ∧ B ≤ g ∧ W.heap[g]? = some (.cells cur 53 (0, 0)) ∧ m ≤ cap ∧ cap ≤ maxLen ∧ cur.size = cap * 2 := by
  obtain ⟨_, cs, ⟨_, hor⟩, _, _⟩ := h
  obtain ⟨b, hb1, hb2⟩ := hb
  rcases hor with ⟨rfl, _⟩ | ⟨g, cap, cur, rfl, hg, hh, h1, h2, h3, _⟩
  · simp [Value.ownBlock] at hb1
  · have : g = b := by simpa [Value.ownBlock] using hb1
    subst this
    rw [List.length_replicate] at *
    exact ⟨g, cap, cur, rfl, hg, hb2, hh, h1, h2, h3⟩
theorem ig_row (l : List S53) (W : World) (base g cap : Nat) (cur : Array Value) (hg : base ≤ g) (hh : W.heap[g]? = some (.cells cur 53 (0, 0))) (hl : l.length ≤ cap) (hc : cap ≤ maxLen) (hs : cur.size = cap * 2)
    (hv : ∀ j (h : j < l.length), cur[2 * j]? = some (.int .i64 l[j].f0) ∧ cur[2 * j + 1]? = some (.int .i64 l[j].f1)) :
    Kd.R k53 53 W base (fun _ => True) (.slice (some ⟨g, 0, none⟩) l.length cap) l := by
  have h2 : (k53).sz = 2 := rfl
  have hcl : cur.toList.length = cap * 2 := Array.length_toList.trans hs
  refine ⟨fun _ _ => trivial, cur.toList.take (l.length * 2), ⟨?_, .inr ⟨g, cap, cur, rfl, hg, hh, hl, hc, ?_, rfl⟩⟩, ?_, fun j p hp => ?_⟩
  · show (cur.toList.take (l.length * 2)).length = l.length * 2
    rw [List.length_take, hcl]; omega
  · exact hs
  · show (cur.toList.take (l.length * 2)).length = l.length * 2
    rw [List.length_take, hcl]; omega
  · obtain ⟨hj, rfl⟩ := List.getElem?_eq_some_iff.1 hp
    obtain ⟨v0, v1⟩ := hv j hj
    have e : ((cur.toList.take (l.length * 2)).drop (j * 2)).take 2 = [.int .i64 l[j].f0, .int .i64 l[j].f1] := by
      apply List.ext_getElem?
      intro i
      match i with
      | 0 => rw [List.getElem?_take, if_pos (by decide), List.getElem?_drop, List.getElem?_take, if_pos (by omega), Array.getElem?_toList, show j * 2 + 0 = 2 * j by omega, v0]; rfl
      | 1 => rw [List.getElem?_take, if_pos (by decide), List.getElem?_drop, List.getElem?_take, if_pos (by omega), Array.getElem?_toList, show j * 2 + 1 = 2 * j + 1 by omega, v1]; rfl
      | i + 2 => rw [List.getElem?_take, if_neg (by omega)]; rfl
    show (k53).M _ _ _ _ (((cur.toList.take (l.length * 2)).drop (j * 2)).take 2)
    rw [e]
    exact k53_mkM _ _ _ _
theorem ig_list (s : ByteArray) (n : Nat) : s.extract 0 n = ⟨(s.data.toList.take n).toArray⟩ := by
  apply ByteArray.ext
  apply Array.toList_inj.1
  simp [ByteArray.data_extract, Array.toList_extract, List.extract_eq_take_drop]
set_option maxHeartbeats 2000000 in
set_option maxRecDepth 100000 in
theorem ig_run (a : Addr) (a1 : ByteArray) (m k : Nat) (t : Bool) (r1 : List S53) (r2 : Int) (w : World) (hTab : ∀ i : Nat, i < 256 → w.cell? (a.add i) = some (.int .u32 (CrcLem.entryN i : Int))) (hs : a1.size ≤ 100000) (hm : 8 * m + 4 ≤ a1.size) (hT : be4 a1.data.toList (8 * m) = ((CrcLem.sumN 0 (a1.data.toList.take (8 * m)) : Nat) : Int) → index_Right.f k (slotsAt a1.data.toList m) = some t)
    (hres : (be4 a1.data.toList (8 * m) ≠ ((CrcLem.sumN 0 (a1.data.toList.take (8 * m)) : Nat) : Int) ∧ r1 = [] ∧ r2 = 5) ∨ (be4 a1.data.toList (8 * m) = ((CrcLem.sumN 0 (a1.data.toList.take (8 * m)) : Nat) : Int) ∧ ((t = true ∧ r1 = slotsAt a1.data.toList m ∧ r2 = 0) ∨ (t = false ∧ r1 = [] ∧ r2 = 4)))) :
    Calls Try.prog 27 #[.pointer (some a), .string a1, .int .i64 m] w fun e w' => ∃ v0_ : Value, e = .returned (.tuple #[v0_, .int .i64 r2]) ∧ Kd.R k53 53 w' w.heap.size (fun _ => True) v0_ r1 ∧ Below w.heap.size w w' := by
  have HRES := Aside0.mk hres
  clear hres
  have HTab := Aside0.mk hTab
  have HT := Aside0.mk hT
  clear hTab hT
  have hu := Try.underlying53
  have d1 : decide ((m : Int) < 0) = false := decide_eq_false (by omega)
  have d2 : decide ((262144 : Int) < (m : Int)) = false := decide_eq_false (by omega)
  have hsz0 : index_Size.f (m : Int) = some ((8 * m + 4 : Nat) : Int) := by
    unfold index_Size.f
    rw [if_neg (by omega), if_neg (by omega)]
    congr 1; unfold wrap64; omega
  have d3 : decide ((a1.size : Int) < ((8 * m + 4 : Nat) : Int)) = false := decide_eq_false (by omega)
  have q1 : (((8 * m + 4 : Nat) : Int) ≤ (a1.size : Int)) = True := eq_true (by omega)
  have q2 : (0 ≤ ((8 * m + 4 : Nat) : Int)) = True := eq_true (by omega)
  generalize hM : 8 * m + 4 = M at *
  go_enter Try.func27, Try.ntmps27
  have iS : (Try.prog.info? 53).map (fun i => (i.zero, i.size, i.bytes)) = some (some (.agg #[.int .i64 0, .int .i64 0]), 2, 16) := by kernel_rfl
  go_wp2_with (first
    | (go_at_call 25; refine (index_Size.calls _ _ _ hsz0).mono ?_; rintro e w1 ⟨rfl, ⟨n1, rfl⟩⟩)
    | (go_at_call 32; refine (octet_New.calls _ _ _ _ w _ (pw_below_drewN (Below.refl _ _) n1) rfl).mono ?_; rintro e w2 ⟨g, rfl, hI2, hB2, hb2⟩)
    | ((with_reducible refine gate_dst (N := 33) rfl ?_); refine Kd.R_make k53 _ 53 rfl (N := 33) rfl 40 _ _ rfl (m : Int) rfl rfl Try.underlying40 (.agg #[.int .i64 0, .int .i64 0]) 16 iS rfl (by decide) (by omega) z53 (ok := fun _ => True) (okp := fun _ => True) (k53_mkM _ _ _ _) (fun _ hk => hk) trivial (by omega) (by rw [Int.toNat_natCast]; omega) (Below.refl _ _) (Nat.le_refl _) ?_; intro v10 w3 ho3 hb3 hg3 hnew3; rw [Int.toNat_natCast] at ho3; obtain ⟨gl, cap, cur, rfl, hgl1, hgl2, hh3, hc1, hc2, hc3⟩ := ig_made ho3 hnew3; have hI3 := hI2.grown hg3 (by simp); have hne : gl ≠ g := (by have := hI2.lt; omega); have hB3 := below_step hB2 hb3; have hgl : w.heap.size ≤ gl := Nat.le_trans hB2.size hgl2; have HC2 := Aside0.mk hc2; clear ho3 hnew3 hg3 hb3 hI2 hB2 hb2 hc2))
  have hlist := ig_list a1 M
  generalize hSZ : ((a1.extract 0 M).size : Int) = SZ at hI3
  rw [hlist, ← List.drop_zero (l := a1.data.toList.take M)] at hI3
  clear hSZ hlist
  go_loopw [36] (fun v wr => ∃ (i : Nat) (cur : Array Value), i ≤ m ∧ v = .int .i64 i ∧ Aside0 (IsS95 w wr g ⟨((a1.data.toList.take M).drop (8 * i)).toArray⟩ SZ true) ∧ Aside0 (wr.heap[gl]? = some (.cells cur 53 (0, 0))) ∧ cur.size = cap * 2 ∧ Aside0 (∀ j, j < i → cur[2 * j]? = some (.int .i64 (be4 a1.data.toList (8 * j))) ∧ cur[2 * j + 1]? = some (.int .i64 (be4 a1.data.toList (8 * j + 4)))) ∧ Aside0 (Below w.heap.size w wr)) (fun v _ => m - (intOf v).toNat)
  case atStart => exact ⟨0, cur, Nat.zero_le _, rfl, ⟨hI3⟩, ⟨hh3⟩, hc3, ⟨fun j hj => absurd hj (Nat.not_lt_zero _)⟩, ⟨hB3⟩⟩
  case round =>
    clear hI3 hh3 hc3 hB3
    obtain ⟨i, cur, hi, rfl, HI, HH, hc3, HV, HB⟩ := hrel
    by_cases hlt : i < m
    · have hc : decide ((i : Int) < (m : Int)) = true := decide_eq_true (by omega)
      have ew : wrap64 ((i : Int) + 1) = ((i + 1 : Nat) : Int) := by unfold wrap64; omega
      have p1 : (0 ≤ (i : Int)) = True := eq_true (by omega)
      have p2 : ((i : Int) < (m : Int)) = True := eq_true (by omega)
      have r1 := ig_at a1.data.toList M (8 * i) (by omega) (by rw [Array.length_toList]; show M ≤ a1.size; omega) SZ
      have r2 := ig_at a1.data.toList M (8 * i + 4) (by omega) (by rw [Array.length_toList]; show M ≤ a1.size; omega) SZ
      go_upto_region 12 with (go_at_call 51; refine (octet_Reader_Num.calls g _ _ _ _ _ _ _ _ w _ HI.out HB.out r1).mono ?_; rintro e w4 ⟨rfl, hI4, hB4, hk4⟩; have hh4 := (hk4.2 gl (blk_lt HH.out) hne (by simp)).trans HH.out; have hz4 : w4.cell? ⟨gl, i * 2, none⟩ = some (cur[i * 2]'(by omega)) := (blk_cell hh4 (i * 2)).trans (Array.getElem?_eq_getElem _); have hf4 := blk_frozen hh4 (i * 2))
      have hK5 := (KeepBut.refl w4 gl none).set_ (i * 2) (.int .i64 (be4 a1.data.toList (8 * i)))
      have hh5 := blk_put hh4 (i * 2) (.int .i64 (be4 a1.data.toList (8 * i))) rfl
      have hB5 : Below w.heap.size w (w4.setCell ⟨gl, i * 2, none⟩ (.int .i64 (be4 a1.data.toList (8 * i)))) := below_set hB4 hgl
      have hI5 : IsS95 w (w4.setCell ⟨gl, i * 2, none⟩ (.int .i64 (be4 a1.data.toList (8 * i)))) g ⟨((a1.data.toList.take M).drop (8 * i + 4)).toArray⟩ SZ true := ⟨by rw [hK5.2 g (blk_lt hI4.1) hne.symm (by simp)]; exact hI4.1, hI4.2⟩
      clear hz4 hf4 hh4 hB4 hI4 hk4
      go_wp2_with (go_at_call 51; refine (octet_Reader_Num.calls g _ _ _ _ _ _ _ _ w _ hI5 hB5 r2).mono ?_; rintro e w6 ⟨rfl, hI6, hB6, hk6⟩; have hh6 := (hk6.2 gl (blk_lt hh5) hne (by simp)).trans hh5; have hz6 : w6.cell? ⟨gl, i * 2 + 1, none⟩ = some ((cur.setIfInBounds (i * 2) (.int .i64 (be4 a1.data.toList (8 * i))))[i * 2 + 1]'(by rw [Array.size_setIfInBounds]; omega)) := (blk_cell hh6 (i * 2 + 1)).trans (Array.getElem?_eq_getElem _); have hf6 := blk_frozen hh6 (i * 2 + 1))
      have hK7 := (KeepBut.refl w6 gl none).set_ (i * 2 + 1) (.int .i64 (be4 a1.data.toList (8 * i + 4)))
      have hI7 : IsS95 w (w6.setCell ⟨gl, i * 2 + 1, none⟩ (.int .i64 (be4 a1.data.toList (8 * i + 4)))) g ⟨((a1.data.toList.take M).drop (8 * (i + 1))).toArray⟩ SZ true := ⟨by rw [hK7.2 g (blk_lt hI6.1) hne.symm (by simp), show 8 * (i + 1) = 8 * i + 4 + 4 by omega]; exact hI6.1, hI6.2⟩
      go_roundw
      case rel =>
        refine ⟨i + 1, _, by omega, by first | rw [ew] | go_num, ⟨hI7⟩, ⟨blk_put hh6 (i * 2 + 1) _ rfl⟩, by rw [Array.size_setIfInBounds, Array.size_setIfInBounds]; exact hc3, ⟨fun j hj => ?_⟩, ⟨below_set hB6 hgl⟩⟩
        rw [Array.getElem?_setIfInBounds, Array.getElem?_setIfInBounds, Array.getElem?_setIfInBounds, Array.getElem?_setIfInBounds, Array.size_setIfInBounds]
        by_cases hji : j = i
        · subst hji
          rw [if_neg (by omega), if_pos (by omega), if_pos (by omega), if_pos (by omega), if_pos (by omega)]
          exact ⟨rfl, rfl⟩
        · rw [if_neg (by omega), if_neg (by omega), if_neg (by omega), if_neg (by omega)]
          exact HV.out j (by omega)
      case measure =>
        simp only [intOf]; (try rw [ew]); omega
    · obtain rfl : m = i := by omega
      have hc : decide ((m : Int) < (m : Int)) = false := decide_eq_false (by omega)
      have hread := ig_at a1.data.toList M (8 * m) (by omega) (by rw [Array.length_toList]; show M ≤ a1.size; omega) SZ
      obtain ⟨n8, hn8⟩ : ∃ n8, n8 = 8 * m := ⟨_, rfl⟩
      rw [← hn8] at hread
      have e4 : wrap64 ((M : Int) - 4) = (n8 : Int) := by unfold wrap64; omega
      have s1 : ((n8 : Int) ≤ (a1.size : Int)) = True := eq_true (by omega)
      have s2 : (0 ≤ (n8 : Int)) = True := eq_true (by omega)
      have hsz : (a1.extract 0 n8).size ≤ 140737488351232 := by rw [ByteArray.size_extract]; omega
      have hI := HI.out
      rw [← hn8] at hI
      have hsumL : (a1.extract 0 n8).data.toList = List.take (8 * m) a1.data.toList := by rw [hn8, ig_list]
      have HN8 := Lib.hid hn8
      clear hn8
      have hB := HB.out
      go_wp2_with fail
      refine start_ (n := 11) (S := fun _ => True) (ds := []) #[false, false, false, false, false, false, false, false, false, false, false] (by kernel_rfl) rfl rfl trivial (fun hHeld => ?_); refine with_tabW IdxGet14.tab14 IdxGet14.bits14 (fun HT_ HW_ => ?_)
      refine pure_ (i := 0) (N := (some 53)) (v := ?_) (a' := ?_) #[true, false, false, false, false, false, false, false, false, false, false] rfl rfl (any_of HT_.out (by kernel_rfl)) (fun _ _ _ h => h) (Or.inl ⟨by rfl, ?_⟩) ?_ ?_
      rotate_left
      · intro w'
        go_simp
        with_reducible rfl
      rotate_left
      · simp only [Act.put, List.setIfInBounds_toArray, List.set_cons_zero, List.set_cons_succ, i64_w, i32_w]
        rfl
      refine pure_ (i := 2) (N := (some 55)) (v := ?_) (a' := ?_) #[true, false, true, false, false, false, false, false, false, false, false] rfl rfl (any_of HT_.out (by kernel_rfl)) (fun _ _ _ h => h) (Or.inl ⟨by rfl, ?_⟩) ?_ ?_
      rotate_left
      · intro w'
        go_simp
        with_reducible rfl
      rotate_left
      · simp only [Act.put, List.setIfInBounds_toArray, List.set_cons_zero, List.set_cons_succ, i64_w, i32_w]
        rfl
      refine pure_ (i := 3) (N := (some 56)) (v := ?_) (a' := ?_) #[true, false, true, true, false, false, false, false, false, false, false] rfl rfl (any_of HT_.out (by kernel_rfl)) (fun _ _ _ h => h) (Or.inl ⟨by rfl, ?_⟩) ?_ ?_
      rotate_left
      · intro w'
        go_simp
        with_reducible rfl
      rotate_left
      · simp only [Act.put, List.setIfInBounds_toArray, List.set_cons_zero, List.set_cons_succ, i64_w, i32_w]
        rfl
      refine pure_ (i := 4) (N := (some 57)) (v := ?_) (a' := ?_) #[true, false, true, true, true, false, false, false, false, false, false] rfl rfl (any_of HT_.out (by kernel_rfl)) (fun _ _ _ h => h) (Or.inl ⟨by rfl, ?_⟩) ?_ ?_
      rotate_left
      · intro w'
        go_simp
        with_reducible rfl
      rotate_left
      · simp only [Act.put, List.setIfInBounds_toArray, List.set_cons_zero, List.set_cons_succ, i64_w, i32_w]
        rfl
      refine pure_ (i := 5) (N := (some 58)) (v := ?_) (a' := ?_) #[true, false, true, true, true, true, false, false, false, false, false] rfl rfl (any_of HT_.out (by kernel_rfl)) (fun _ _ _ h => h) (Or.inl ⟨by rfl, ?_⟩) ?_ ?_
      rotate_left
      · intro w'
        go_simp
        with_reducible rfl
      rotate_left
      · simp only [Act.put, List.setIfInBounds_toArray, List.set_cons_zero, List.set_cons_succ, i64_w, i32_w]
        rfl
      refine pure_ (i := 6) (N := (some 59)) (v := ?_) (a' := ?_) #[true, false, true, true, true, true, true, false, false, false, false] rfl rfl (any_of HT_.out (by kernel_rfl)) (fun _ _ _ h => h) (Or.inl ⟨by rfl, ?_⟩) ?_ ?_
      rotate_left
      · intro w'
        go_simp
        with_reducible rfl
      rotate_left
      · simp only [Act.put, List.setIfInBounds_toArray, List.set_cons_zero, List.set_cons_succ, i64_w, i32_w]
        rfl
      refine one_ (i := 1) (N := (some 54)) #[true, true, true, true, true, true, true, false, false, false, false] rfl rfl (one_of HT_.out (by kernel_rfl)) (by decide) (fun K hK => ?_)
      refine goes_ Try.func51 (by kernel_rfl) rfl #[.pointer (some ⟨g, 0, none⟩), .int .i64 4] (by rfl) rfl rfl (by (try simp only [List.map_toArray, List.map_cons, List.map_nil]); first | done | rfl) ?_
      refine (octet_Reader_Num.calls g _ _ _ _ _ _ _ _ w _ (IsS95.drew hI) (Below.drew hB) hread).mono ?_
      rintro e w2 ⟨rfl, hI2, hB2, hk2⟩
      refine ⟨_, rfl, ?_⟩
      refine hK.out _ _ trivial (fun hHeld => ?_)
      clear hK K
      refine norm_ (a' := ?_) ?_ ?_
      rotate_left
      · show Act.put _ (some 54) _ = _
        simp only [Act.put, List.setIfInBounds_toArray, List.set_cons_zero, List.set_cons_succ, i64_w, i32_w]
        rfl
      refine one_ (i := 7) (N := (some 60)) #[true, true, true, true, true, true, true, true, false, false, false] rfl rfl (one_of HT_.out (by kernel_rfl)) (by decide) (fun K hK => ?_)
      refine goes_ Try.func45 (by kernel_rfl) rfl #[.pointer (some a), .string (a1.extract 0 n8)] (by rfl) rfl rfl (by (try simp only [List.map_toArray, List.map_cons, List.map_nil]); first | done | rfl) ?_
      refine (CrcW.sum_at a _ _ hsz (fun j hj => (hB2.cell (World.block_lt_of_cell? w _ (HTab.out j hj))).trans (HTab.out j hj))).mono ?_
      rintro e w3 ⟨rfl, n3, rfl⟩
      refine ⟨_, rfl, ?_⟩
      refine hK.out _ _ trivial (fun hHeld => ?_)
      clear hK K
      refine norm_ (a' := ?_) ?_ ?_
      rotate_left
      · show Act.put _ (some 60) _ = _
        simp only [Act.put, List.setIfInBounds_toArray, List.set_cons_zero, List.set_cons_succ, i64_w, i32_w]
        rfl
      refine pure_ (i := 8) (N := (some 61)) (v := ?_) (a' := ?_) #[true, true, true, true, true, true, true, true, true, false, false] rfl rfl (any_of HT_.out (by kernel_rfl)) (fun _ _ _ h => h) (Or.inl ⟨by rfl, ?_⟩) ?_ ?_
      rotate_left
      · intro w'
        go_simp
        with_reducible rfl
      rotate_left
      · simp only [Act.put, List.setIfInBounds_toArray, List.set_cons_zero, List.set_cons_succ, i64_w, i32_w]
        rfl
      refine pure_ (i := 9) (N := (some 62)) (v := ?_) (a' := ?_) #[true, true, true, true, true, true, true, true, true, true, false] rfl rfl (any_of HT_.out (by kernel_rfl)) (fun _ _ _ h => h) (Or.inl ⟨by rfl, ?_⟩) ?_ ?_
      rotate_left
      · intro w'
        go_simp
        with_reducible rfl
      rotate_left
      · simp only [Act.put, List.setIfInBounds_toArray, List.set_cons_zero, List.set_cons_succ, i64_w, i32_w]
        rfl
      refine pure_ (i := 10) (N := (some 52)) (v := ?_) (a' := ?_) #[true, true, true, true, true, true, true, true, true, true, true] rfl rfl (any_of HT_.out (by kernel_rfl)) (fun _ _ _ h => h) (Or.inl ⟨by rfl, ?_⟩) ?_ ?_
      rotate_left
      · intro w'
        go_simp
        with_reducible rfl
      rotate_left
      · simp only [Act.put, List.setIfInBounds_toArray, List.set_cons_zero, List.set_cons_succ, i64_w, i32_w]
        rfl
      refine done_ (done_of HT_.out (by kernel_rfl)) ?_
      have hw6 : wrap64 ((CrcLem.sumN 0 (List.take n8 a1.data.toList) : Nat) : Int) = ((CrcLem.sumN 0 (List.take n8 a1.data.toList) : Nat) : Int) := by
        have := CrcLem.sumN_lt 0 (List.take n8 a1.data.toList) (by decide)
        unfold wrap64; omega
      have HW6 := Aside0.mk hw6
      clear hw6
      go_wp2_with fail
      · rename_i hcd
        go_ret2
        rw [HW6.out, HN8.out] at hcd
        rcases HRES.out with ⟨_, rfl, rfl⟩ | ⟨he, _⟩
        · exact ⟨_, rfl, Kd.R_nil _ _ _ _ _, pw_below_drewN hB2 n3⟩
        · rw [he] at hcd; simp at hcd
      · have hcd : ¬ ((be4 a1.data.toList n8 != wrap64 ((CrcLem.sumN 0 (List.take n8 a1.data.toList) : Nat) : Int)) = true) := by
          first | assumption | (rw [Bool.not_eq_true]; assumption)
        have heq : be4 a1.data.toList (8 * m) = ((CrcLem.sumN 0 (a1.data.toList.take (8 * m)) : Nat) : Int) := by
          rw [HW6.out, HN8.out] at hcd
          simpa using hcd
        have hlen : (slotsAt a1.data.toList m).length = m := by simp [slotsAt]
        have hB3 := pw_below_drewN hB2 n3
        have hhw : wr.drew.heap[gl]? = some (.cells cur 53 (0, 0)) := HH.out
        have hh2 : (w2.drewN n3).heap[gl]? = some (.cells cur 53 (0, 0)) := (hk2.2 gl (blk_lt hhw) hne (by simp)).trans hhw
        have hRow := ig_row (slotsAt a1.data.toList m) (w2.drewN n3) w.heap.size gl cap cur hgl hh2 (by rw [hlen]; exact hc1) HC2.out hc3 (fun j hj => by
          have := HV.out j (by rw [hlen] at hj; exact hj)
          simp only [slotsAt, List.getElem_map, List.getElem_range, slotAt]
          exact this)
        obtain ⟨A', c', hv', hc', hC⟩ := Kd.R_reads hRow
        cases hv'
        have hcall := index_Right.calls k _ cap (slotsAt a1.data.toList m) t (w2.drewN n3) hC hc' (HT.out heq)
        rw [hlen] at hcall hRow
        rcases HRES.out with ⟨hn, _⟩ | ⟨_, ⟨rfl, rfl, rfl⟩ | ⟨rfl, rfl, rfl⟩⟩
        · exact absurd heq hn
        · refine hcall.mono ?_
          rintro e w5 ⟨rfl, hb5⟩
          go_wp2_with fail
          go_ret2
          exact ⟨_, rfl, Kd.R_below hRow hb5, below_step hB3 hb5⟩
        · refine hcall.mono ?_
          rintro e w5 ⟨rfl, hb5⟩
          go_wp2_with fail
          go_ret2
          exact ⟨_, rfl, Kd.R_nil _ _ _ _ _, below_step hB3 hb5⟩
set_option maxHeartbeats 1000000 in
set_option maxRecDepth 100000 in
theorem ig_out (A0 : Option Addr) (a1 : ByteArray) (a2 : Int) (w : World) (h : A0 = none ∨ (∃ a, A0 = some a ∧ (a2 < 0 ∨ (¬ a2 < 0 ∧ 262144 < a2)))) :
    Calls Try.prog 27 #[.pointer A0, .string a1, .int .i64 a2] w fun e w' => e = .returned (.tuple #[.slice none 0 0, .int .i64 1]) ∧ w' = w := by
  rcases h with rfl | ⟨a, rfl, h | ⟨h, h'⟩⟩
  · go_enter Try.func27, Try.ntmps27
    go_wp2_with fail
    go_ret2
    exact ⟨rfl, rfl⟩
  · have d1 : decide (a2 < 0) = true := decide_eq_true h
    go_enter Try.func27, Try.ntmps27
    go_wp2_with fail
    go_ret2
    exact ⟨rfl, rfl⟩
  · have d1 : decide (a2 < 0) = false := decide_eq_false h
    have d2 : decide ((262144 : Int) < a2) = true := decide_eq_true h'
    go_enter Try.func27, Try.ntmps27
    go_wp2_with fail
    go_ret2
    exact ⟨rfl, rfl⟩
set_option maxHeartbeats 1000000 in
set_option maxRecDepth 100000 in
theorem ig_short (a : Addr) (a1 : ByteArray) (m : Nat) (w : World) (hm : m ≤ 262144) (hs : a1.size < 8 * m + 4) :
    Calls Try.prog 27 #[.pointer (some a), .string a1, .int .i64 m] w fun e w' => e = .returned (.tuple #[.slice none 0 0, .int .i64 2]) ∧ Below w.heap.size w w' := by
  have d1 : decide ((m : Int) < 0) = false := decide_eq_false (by omega)
  have d2 : decide ((262144 : Int) < (m : Int)) = false := decide_eq_false (by omega)
  have hsz0 : index_Size.f (m : Int) = some ((8 * m + 4 : Nat) : Int) := by
    unfold index_Size.f
    rw [if_neg (by omega), if_neg (by omega)]
    congr 1; unfold wrap64; omega
  generalize 8 * m + 4 = M at *
  have d3 : decide ((a1.size : Int) < (M : Int)) = true := decide_eq_true (by omega)
  go_enter Try.func27, Try.ntmps27
  go_wp2_with (go_at_call 25; refine (index_Size.calls _ _ _ hsz0).mono ?_; rintro e w1 ⟨rfl, ⟨n1, rfl⟩⟩)
  go_ret2
  exact ⟨rfl, pw_below_drewN (Below.refl _ _) n1⟩
theorem index_Get.calls (k : Nat) (A0 : Option Addr) (c0 : Nat) (l0 : List Int) (a1 : ByteArray) (a2 : Int) (r1 : List S53) (r2 : Int) (w : World) (hr0 : Kd.C (Kd.int .u32) w A0 l0.length l0) (hc0 : l0.length ≤ c0) (h : index_Get.f k l0 a1 a2 = some (r1, r2)) :
    Calls Try.prog 27 #[.pointer A0, .string a1, .int .i64 a2] w fun e w' => ∃ v0_ : Value, e = .returned (.tuple #[v0_, .int .i64 r2]) ∧ Kd.R k53 53 w' w.heap.size (fun _ => True) v0_ r1 ∧ Below w.heap.size w w' := by
  unfold index_Get.f at h
  by_cases cc : l0 = CrcX.crcTab ∧ a1.size ≤ 100000
  · rw [if_pos cc] at h
    obtain ⟨rfl, hs⟩ := cc
    obtain ⟨a, rfl, hTab⟩ := CrcX.tab_at hr0
    by_cases c1 : a2 < 0 ∨ 262144 < a2
    · rw [if_pos c1] at h
      simp only [Option.some.injEq, Prod.mk.injEq] at h
      obtain ⟨rfl, rfl⟩ := h
      refine (ig_out (some a) a1 a2 w (.inr ⟨a, rfl, by omega⟩)).mono ?_
      rintro e w' ⟨rfl, rfl⟩
      exact ⟨_, rfl, Kd.R_nil _ _ _ _ _, Below.refl _ _⟩
    · rw [if_neg c1] at h
      obtain ⟨m, rfl⟩ := Int.eq_ofNat_of_zero_le (show 0 ≤ a2 by omega)
      rw [Int.toNat_natCast] at h
      by_cases c2 : (a1.size : Int) < 8 * (m : Int) + 4
      · rw [if_pos c2] at h
        simp only [Option.some.injEq, Prod.mk.injEq] at h
        obtain ⟨rfl, rfl⟩ := h
        refine (ig_short a a1 m w (by omega) (by omega)).mono ?_
        rintro e w' ⟨rfl, hb⟩
        exact ⟨_, rfl, Kd.R_nil _ _ _ _ _, hb⟩
      · rw [if_neg c2] at h
        by_cases c3 : be4 a1.data.toList (8 * m) = ((CrcLem.sumN 0 (a1.data.toList.take (8 * m)) : Nat) : Int)
        · rw [if_pos c3] at h
          obtain ⟨t, h1, h2⟩ := Option.bind_eq_some_iff.1 h
          refine ig_run a a1 m k t r1 r2 w hTab hs (by omega) (fun _ => h1) (.inr ⟨c3, ?_⟩)
          cases t with
          | true => rw [if_pos rfl] at h2; simp only [Option.some.injEq, Prod.mk.injEq] at h2; exact .inl ⟨rfl, h2.1.symm, h2.2.symm⟩
          | false => rw [if_neg (by decide)] at h2; simp only [Option.some.injEq, Prod.mk.injEq] at h2; exact .inr ⟨rfl, h2.1.symm, h2.2.symm⟩
        · rw [if_neg c3] at h
          simp only [Option.some.injEq, Prod.mk.injEq] at h
          exact ig_run a a1 m k true r1 r2 w hTab hs (by omega) (fun he => absurd he c3) (.inl ⟨c3, h.1.symm, h.2.symm⟩)
  · rw [if_neg cc] at h; cases h
def index_Get_nil.f (k : Nat) (_ : Unit) (a1 : ByteArray) (a2 : Int) : Option (List S53 × Int) := some ([], 1)
theorem index_Get_nil.mono : ∀ a0 a1 a2 k, LeO (index_Get_nil.f k a0 a1 a2) (index_Get_nil.f (k + 1) a0 a1 a2) := fun _ _ _ _ _ h => h
theorem index_Get_nil.calls (k : Nat) (a0 : Unit) (a1 : ByteArray) (a2 : Int) (r1 : List S53) (r2 : Int) (w : World) (h : index_Get_nil.f k a0 a1 a2 = some (r1, r2)) :
    Calls Try.prog 27 #[.pointer none, .string a1, .int .i64 a2] w fun e w' => ∃ v0_ : Value, e = .returned (.tuple #[v0_, .int .i64 r2]) ∧ Kd.R k53 53 w' w.heap.size (fun _ => True) v0_ r1 ∧ Below w.heap.size w w' := by
  simp only [index_Get_nil.f, Option.some.injEq, Prod.mk.injEq] at h
  obtain ⟨rfl, rfl⟩ := h
  refine (ig_out none a1 a2 w (.inl rfl)).mono ?_
  rintro e w' ⟨rfl, rfl⟩
  exact ⟨_, rfl, Kd.R_nil _ _ _ _ _, Below.refl _ _⟩
end

/-! ### splicerref32_Same: function 29 -/
def splicerref32_Same.l0 : Nat → List (S53) → List (S53) → Int → Option (Bool)
  | 0, _, _, _ => none
  | k + 1, x0, x1, x5 => if x5 < (x0.length : Int) then (if 0 ≤ x5 then (if x5 < (x1.length : Int) then (if (!(((rd_T53 x0 x5).f0) == ((rd_T53 x1 x5).f0)) || (!(((rd_T53 x0 x5).f1) == ((rd_T53 x1 x5).f1)))) = true then (some false) else (splicerref32_Same.l0 k x0 x1 (wrap64 (x5 + 1)))) else (none)) else (none)) else (some true)
def splicerref32_Same.f (k : Nat) (l0 : List (S53)) (l1 : List (S53)) : Option (Bool) := if (l0.length : Int) = (l1.length : Int) then (splicerref32_Same.l0 k l0 l1 0) else (some false)
theorem splicerref32_Same.mono_l : ∀ k, (∀ y0 y1 y2, LeO (splicerref32_Same.l0 k y0 y1 y2) (splicerref32_Same.l0 (k + 1) y0 y1 y2))
  | 0 => fun _ _ _ r h => by simp [splicerref32_Same.l0] at h
  | k + 1 => by
    have ih0 := splicerref32_Same.mono_l k
    · intro y0 y1 y2
      unfold splicerref32_Same.l0
      repeat' first
      | (with_reducible exact ih0 _ _ _)
      | (with_reducible exact LeO.refl _)
      | (with_reducible exact LeO.none _)
      | (with_reducible refine LeO.ite ?_ ?_)
      | (with_reducible refine LeO.bind ?_ (fun _ => ?_))
      | exact ih0 _ _ _
      | exact LeO.none _
      | refine LeO.ite ?_ ?_
      | refine LeO.bind ?_ (fun _ => ?_)
theorem splicerref32_Same.mono : ∀ a0 a1 k, LeO (splicerref32_Same.f k a0 a1) (splicerref32_Same.f (k + 1) a0 a1) := by
  intro a0 a1 k
  have ih0 := splicerref32_Same.mono_l k
  unfold splicerref32_Same.f
  repeat' first
      | (with_reducible exact ih0 _ _ _)
      | (with_reducible exact LeO.refl _)
      | (with_reducible exact LeO.none _)
      | (with_reducible refine LeO.ite ?_ ?_)
      | (with_reducible refine LeO.bind ?_ (fun _ => ?_))
      | exact ih0 _ _ _
      | exact LeO.none _
      | refine LeO.ite ?_ ?_
      | refine LeO.bind ?_ (fun _ => ?_)
set_option maxHeartbeats 8000000 in
set_option maxRecDepth 100000 in
theorem splicerref32_Same.calls (k : Nat) (A0 : Option Addr) (c0 : Nat) (l0 : List (S53)) (A1 : Option Addr) (c1 : Nat) (l1 : List (S53)) (r : Bool) (w : World) (hr0 : Kd.C k53 w A0 l0.length l0) (hc0 : l0.length ≤ c0) (hr1 : Kd.C k53 w A1 l1.length l1) (hc1 : l1.length ≤ c1) (h : splicerref32_Same.f k l0 l1 = some r) :
    Calls Try.prog 29 #[.slice A0 l0.length c0, .slice A1 l1.length c1] w fun e w' => e = .returned (.bool r) ∧ Drawn0 w w' := by
  have hu53 := Try.underlying53
  have HR0 := Aside0.mk hr0
  have HC0 := Aside0.mk hc0
  clear hr0 hc0
  have HR1 := Aside0.mk hr1
  have HC1 := Aside0.mk hc1
  clear hr1 hc1
  have H : (if (l0.length : Int) = (l1.length : Int) then (splicerref32_Same.l0 k l0 l1 0) else (some false)) = some r := h
  clear h
  by_cases c3 : (l0.length : Int) = (l1.length : Int)
  · rw [if_pos c3] at H
    have c3b0 : ((l0.length : Int) == (l1.length : Int)) = true := beq_iff_eq.mpr c3
    have c3b1 : ((l0.length : Int) != (l1.length : Int)) = false := bne_eq_false_iff_eq.mpr c3
    have c3b2 : (l0.length == l1.length) = true := by first | simpa using c3 | (simp at c3 ⊢; omega)
    clear c3
    have H' := Aside0.mk H
    clear H
    go_enter Try.func29, Try.ntmps29
    go_wp2
    repeat (go_quiet (fail); try go_wp2)
    go_loopg [5] k (fun kq v5 w' => ∃ (x5_1 : Int), v5 = .int .i64 x5_1 ∧ Aside0 (splicerref32_Same.l0 kq l0 l1 x5_1 = some r) ∧ Aside0 (kq ≤ k) ∧ Drawn0 w w')
    case atStart => exact ⟨(0), (by first | rfl | (simp; done) | (simp [*]; done)), H', ⟨Nat.le_refl _⟩, by repeat (first | exact Drawn0.refl _ | apply Drawn0.step)⟩
    case round =>
      clear H'
      try clear c1
      try clear c2
      try clear p2
      try clear c3
      try clear c3b0
      try clear c3b1
      try clear c3b2
      obtain ⟨x5_1, rfl, HA, HK1, ⟨m1, rfl⟩⟩ := hrel
      cases gk with
      | zero => exact absurd HA.out (by simp [splicerref32_Same.l0])
      | succ k1 =>
        have H := HA.out
        clear HA
        simp only [splicerref32_Same.l0] at H
        by_cases c4 : x5_1 < (l0.length : Int)
        · rw [if_pos c4] at H
          have c4b0 : decide (x5_1 < (l0.length : Int)) = true := decide_eq_true c4
          clear c4
          by_cases c5 : 0 ≤ x5_1
          · rw [if_pos c5] at H
            have c5b0 : decide (0 ≤ x5_1) = true := decide_eq_true c5
            clear c5
            by_cases c6 : x5_1 < (l1.length : Int)
            · rw [if_pos c6] at H
              have c6b0 : decide (x5_1 < (l1.length : Int)) = true := decide_eq_true c6
              clear c6
              by_cases c7 : (!(((rd_T53 l0 x5_1).f0) == ((rd_T53 l1 x5_1).f0)) || (!(((rd_T53 l0 x5_1).f1) == ((rd_T53 l1 x5_1).f1)))) = true
              · rw [if_pos c7] at H
                have c7b0 : (!(((rd_T53 l0 x5_1).f0) == ((rd_T53 l1 x5_1).f0)) || (!(((rd_T53 l0 x5_1).f1) == ((rd_T53 l1 x5_1).f1)))) = true := c7
                clear c7
                obtain rfl := Option.some.inj H
                have p109 : 0 ≤ (x5_1 : Int) := of_decide_eq_true (by first | (with_reducible assumption) | assumption)
                have q109 : x5_1 < (l0.length : Int) := of_decide_eq_true (by first | (with_reducible assumption) | assumption)
                obtain ⟨ad109, e109, hx109_0, hx109_1⟩ := at_T53 HR0.out x5_1 p109 q109
                cases e109
                replace p109 := eq_true p109
                replace q109 := eq_true q109
                have p110 : 0 ≤ (x5_1 : Int) := of_decide_eq_true (by first | (with_reducible assumption) | assumption)
                have q110 : x5_1 < (l1.length : Int) := of_decide_eq_true (by first | (with_reducible assumption) | assumption)
                obtain ⟨ad110, e110, hx110_0, hx110_1⟩ := at_T53 HR1.out x5_1 p110 q110
                cases e110
                replace p110 := eq_true p110
                replace q110 := eq_true q110
                go_wp2
                repeat (go_quiet (fail); try go_wp2)
                go_ret
                exact ⟨by first | rfl | (simp; done) | (simp [*]; done), by repeat (first | exact Drawn0.refl _ | apply Drawn0.step)⟩
              · rw [if_neg c7] at H
                have c7b0 : (!(((rd_T53 l0 x5_1).f0) == ((rd_T53 l1 x5_1).f0)) || (!(((rd_T53 l0 x5_1).f1) == ((rd_T53 l1 x5_1).f1)))) = false := by simpa using c7
                clear c7
                have H' := Aside0.mk H
                clear H
                have p109 : 0 ≤ (x5_1 : Int) := of_decide_eq_true (by first | (with_reducible assumption) | assumption)
                have q109 : x5_1 < (l0.length : Int) := of_decide_eq_true (by first | (with_reducible assumption) | assumption)
                obtain ⟨ad109, e109, hx109_0, hx109_1⟩ := at_T53 HR0.out x5_1 p109 q109
                cases e109
                replace p109 := eq_true p109
                replace q109 := eq_true q109
                have p110 : 0 ≤ (x5_1 : Int) := of_decide_eq_true (by first | (with_reducible assumption) | assumption)
                have q110 : x5_1 < (l1.length : Int) := of_decide_eq_true (by first | (with_reducible assumption) | assumption)
                obtain ⟨ad110, e110, hx110_0, hx110_1⟩ := at_T53 HR1.out x5_1 p110 q110
                cases e110
                replace p110 := eq_true p110
                replace q110 := eq_true q110
                go_wp2
                repeat (go_quiet (fail); try go_wp2)
                go_roundg k1
                case measure => have := HK1.out; omega
                case rel => exact ⟨(wrap64 (x5_1 + 1)), (by first | rfl | (simp; done) | (simp [*]; done)), H', ⟨by have := HK1.out; omega⟩, by repeat (first | exact Drawn0.refl _ | apply Drawn0.step)⟩
            · rw [if_neg c6] at H
              exact absurd H (by simp)
          · rw [if_neg c5] at H
            exact absurd H (by simp)
        · rw [if_neg c4] at H
          have c4b0 : decide (x5_1 < (l0.length : Int)) = false := decide_eq_false c4
          clear c4
          obtain rfl := Option.some.inj H
          go_wp2
          repeat (go_quiet (fail); try go_wp2)
          go_ret
          exact ⟨by first | rfl | (simp; done) | (simp [*]; done), by repeat (first | exact Drawn0.refl _ | apply Drawn0.step)⟩
  · rw [if_neg c3] at H
    have c3b0 : ((l0.length : Int) == (l1.length : Int)) = false := beq_eq_false_iff_ne.mpr c3
    have c3b1 : ((l0.length : Int) != (l1.length : Int)) = true := bne_iff_ne.mpr c3
    have c3b2 : (l0.length == l1.length) = false := by first | simpa using c3 | (simp at c3 ⊢; omega)
    obtain rfl := Option.some.inj H
    go_enter Try.func29, Try.ntmps29
    go_wp2
    repeat (go_quiet (fail); try go_wp2)
    go_ret
    exact ⟨by first | rfl | (simp; done) | (simp [*]; done), by repeat (first | exact Drawn0.refl _ | apply Drawn0.step)⟩

-- NOT PRINTED: function 53 (sort_Search)

/-! ### index_Find: function 30 -/
section
open Go.Sort
def IdxFind1.T1 : Bool × List (List Nat × List Nat) := (true, [([], []), ([], []), ([0, 1], [0, 1]), ([2], [2]), ([3], [3]), ([], []), ([4, 5], [4, 5]), ([6, 0, 1, 2, 3, 4, 5, 6], [6])])
def IdxFind1.B1 : List Nat := [0, 0, 3, 7, 15, 0, 63, 127]
theorem IdxFind1.tab1 : rtab .any (opsOf Try.f54 1) = IdxFind1.T1 := by kernel_rfl
theorem IdxFind1.bits1 : waitsOk IdxFind1.T1.2 IdxFind1.B1 = true := by kernel_rfl
/- 0:load>5; 1:move>6; 2:indexAddr>7; 3:fieldAddr>8; 4:load>9; 5:load>10; 6:binOp>11; 7:assign>4 -/
set_option maxHeartbeats 1000000 in
set_option maxRecDepth 100000 in
theorem find_at (ad : Addr) (m c0 b1 b2 i : Nat) (n x : Int) (w : World) (h1 : w.cell? ⟨b1, 0, none⟩ = some (.slice (some ad) m c0)) (h2 : w.cell? ⟨b2, 0, none⟩ = some (.int .i64 n)) (hx : w.cell? ⟨(ad.add (i * 2)).block, (ad.add (i * 2)).off + 1, none⟩ = some (.int .i64 x)) (hi : i < m) :
    Calls Try.prog 54 #[.int .i64 i, .pointer (some ⟨b1, 0, none⟩), .pointer (some ⟨b2, 0, none⟩)] w fun e w' => e = .returned (.bool (decide (n < x))) ∧ ∃ q, w' = w.drewN q := by
  have q1 : (0 ≤ (i : Int)) = True := eq_true (by omega)
  have q2 : ((i : Int) < (m : Int)) = True := eq_true (by omega)
  have hu53 := Try.underlying53
  go_enter Try.func54, Try.ntmps54
  go_wp2_with fail
  refine start_ (n := 8) (S := fun w' => w'.cell? ⟨b1, 0, none⟩ = some (.slice (some ad) m c0) ∧ w'.cell? ⟨b2, 0, none⟩ = some (.int .i64 n) ∧ w'.cell? ⟨(ad.add (i * 2)).block, (ad.add (i * 2)).off + 1, none⟩ = some (.int .i64 x)) (ds := []) #[false, false, false, false, false, false, false, false] (by kernel_rfl) rfl rfl ⟨h1, h2, hx⟩ (fun hHeld => ?_); refine with_tabW IdxFind1.tab1 IdxFind1.bits1 (fun HT_ HW_ => ?_)
  refine pure_ (i := 1) (N := (some 6)) (v := ?_) (a' := ?_) #[false, true, false, false, false, false, false, false] rfl rfl (any_of HT_.out (by kernel_rfl)) (fun _ _ _ h => h) (Or.inl ⟨by rfl, ?_⟩) ?_ ?_
  rotate_left
  · intro w'
    go_simp
    with_reducible rfl
  rotate_left
  · simp only [Act.put, List.setIfInBounds_toArray, List.set_cons_zero, List.set_cons_succ, i64_w, i32_w]
    rfl
  refine take_ (i := 0) (N := (some 5)) (v := ?_) (a' := ?_) #[true, true, false, false, false, false, false, false] rfl rfl (take_ofW HT_.out HW_.out (by kernel_rfl)) (fun _ _ _ h => h) (Or.inl ⟨by rfl, ?_⟩) hHeld ?_ ?_
  rotate_left
  · intro w' hS_
    go_simp
    obtain ⟨hS1, hS2, hS3⟩ := hS_; go_simp; with_reducible rfl
  rotate_left
  · simp only [Act.put, List.setIfInBounds_toArray, List.set_cons_zero, List.set_cons_succ, i64_w, i32_w]
    rfl
  refine pure_ (i := 2) (N := (some 7)) (v := ?_) (a' := ?_) #[true, true, true, false, false, false, false, false] rfl rfl (any_of HT_.out (by kernel_rfl)) (fun _ _ _ h => h) (Or.inl ⟨by rfl, ?_⟩) ?_ ?_
  rotate_left
  · intro w'
    go_simp
    with_reducible rfl
  rotate_left
  · simp only [Act.put, List.setIfInBounds_toArray, List.set_cons_zero, List.set_cons_succ, i64_w, i32_w]
    rfl
  refine pure_ (i := 3) (N := (some 8)) (v := ?_) (a' := ?_) #[true, true, true, true, false, false, false, false] rfl rfl (any_of HT_.out (by kernel_rfl)) (fun _ _ _ h => h) (Or.inl ⟨by rfl, ?_⟩) ?_ ?_
  rotate_left
  · intro w'
    go_simp
    with_reducible rfl
  rotate_left
  · simp only [Act.put, List.setIfInBounds_toArray, List.set_cons_zero, List.set_cons_succ, i64_w, i32_w]
    rfl
  refine take_ (i := 4) (N := (some 9)) (v := ?_) (a' := ?_) #[true, true, true, true, true, false, false, false] rfl rfl (take_ofW HT_.out HW_.out (by kernel_rfl)) (fun _ _ _ h => h) (Or.inl ⟨by rfl, ?_⟩) hHeld ?_ ?_
  rotate_left
  · intro w' hS_
    go_simp
    obtain ⟨hS1, hS2, hS3⟩ := hS_; go_simp; with_reducible rfl
  rotate_left
  · simp only [Act.put, List.setIfInBounds_toArray, List.set_cons_zero, List.set_cons_succ, i64_w, i32_w]
    rfl
  refine take_ (i := 5) (N := (some 10)) (v := ?_) (a' := ?_) #[true, true, true, true, true, true, false, false] rfl rfl (take_ofW HT_.out HW_.out (by kernel_rfl)) (fun _ _ _ h => h) (Or.inl ⟨by rfl, ?_⟩) hHeld ?_ ?_
  rotate_left
  · intro w' hS_
    go_simp
    obtain ⟨hS1, hS2, hS3⟩ := hS_; go_simp; with_reducible rfl
  rotate_left
  · simp only [Act.put, List.setIfInBounds_toArray, List.set_cons_zero, List.set_cons_succ, i64_w, i32_w]
    rfl
  refine pure_ (i := 6) (N := (some 11)) (v := ?_) (a' := ?_) #[true, true, true, true, true, true, true, false] rfl rfl (any_of HT_.out (by kernel_rfl)) (fun _ _ _ h => h) (Or.inl ⟨by rfl, ?_⟩) ?_ ?_
  rotate_left
  · intro w'
    go_simp
    with_reducible rfl
  rotate_left
  · simp only [Act.put, List.setIfInBounds_toArray, List.set_cons_zero, List.set_cons_succ, i64_w, i32_w]
    rfl
  refine pure_ (i := 7) (N := (some 4)) (v := ?_) (a' := ?_) #[true, true, true, true, true, true, true, true] rfl rfl (any_of HT_.out (by kernel_rfl)) (fun _ _ _ h => h) (Or.inl ⟨by rfl, ?_⟩) ?_ ?_
  rotate_left
  · intro w'
    go_simp
    with_reducible rfl
  rotate_left
  · simp only [Act.put, List.setIfInBounds_toArray, List.set_cons_zero, List.set_cons_succ, i64_w, i32_w]
    rfl
  refine done_ (done_of HT_.out (by kernel_rfl)) ?_
  go_wp2_with fail
  go_ret
  exact ⟨rfl, 1, rfl⟩
def findS (l : List S53) (n : Int) : Int := ((l.filter fun x => decide (x.f1 ≤ n)).length : Int) - 1
def froms (l : List S53) : Bool := (List.range l.length).all fun b => (List.range (b + 1)).all fun a => decide ((rd_T53 l (a : Nat)).f1 ≤ (rd_T53 l (b : Nat)).f1)
def index_Find.f (l0 : List S53) (a1 : Int) : Option Int := if l0.length ≤ 1000 ∧ froms l0 = true then some (findS l0 a1) else none
theorem find_count (l : List S53) (n : Int) : (List.range l.length).countP (fun i => !(decide (n < (rd_T53 l (i : Nat)).f1))) = (l.filter fun x => decide (x.f1 ≤ n)).length := by
  rw [← List.countP_eq_length_filter]
  have e : l = (List.range l.length).map (fun i : Nat => rd_T53 l (i : Nat)) := by
    apply List.ext_getElem
    · simp
    · intro i h1 h2
      simp only [List.getElem_map, List.getElem_range]
      unfold rd_T53
      rw [Int.toNat_natCast, List.getD_eq_getElem?_getD, List.getElem?_eq_getElem h1]; rfl
  conv => rhs; rw [e]
  rw [List.countP_map]
  congr 1
  funext i
  simp only [Function.comp]
  rw [Bool.eq_iff_iff]
  simp only [Bool.not_eq_true', decide_eq_false_iff_not, decide_eq_true_eq]
  omega
theorem grow_cell {W : World} {p : Addr} {v : Value} (h : W.cell? p = some v) (m : Nat) (os : Array Obj) : (grow (W.drewN m) os).cell? p = some v := by
  have hb := World.block_lt_of_cell? W p h
  have e : (grow (W.drewN m) os).heap[p.block]? = W.heap[p.block]? := Array.getElem?_append_left hb
  rw [← h]
  unfold World.cell?
  rw [e]
theorem grow_below {W0 W : World} (h : Below W0.heap.size W0 W) (m : Nat) (os : Array Obj) : Below W0.heap.size W0 (grow (W.drewN m) os) := below_step h ⟨rfl, rfl, rfl, by show W.heap.size ≤ (W.heap ++ os).size; rw [Array.size_append]; omega, fun i hi => Array.getElem?_append_left hi⟩
set_option maxHeartbeats 2000000 in
set_option maxRecDepth 100000 in
theorem index_Find.calls (A0 : Option Addr) (c0 : Nat) (l0 : List S53) (a1 : Int) (r : Int) (w : World) (hr0 : Kd.C k53 w A0 l0.length l0) (hc0 : l0.length ≤ c0) (h : index_Find.f l0 a1 = some r) :
    Calls Try.prog 30 #[.slice A0 l0.length c0, .int .i64 a1] w fun e w' => e = .returned (.int .i64 r) ∧ Below w.heap.size w w' := by
  unfold index_Find.f at h
  split at h
  · rename_i hc
    obtain rfl := Option.some.inj h
    obtain ⟨hlen, hfr⟩ := hc
    clear h
    have HR0 := Aside0.mk hr0
    have HF := Aside0.mk hfr
    clear hr0 hfr
    obtain ⟨W0, hW0⟩ : ∃ W0, W0 = (w.alloc (.cells #[.slice A0 l0.length c0] 40)).alloc (.cells #[.int .i64 a1] 3) := ⟨_, rfl⟩
    have hB0 : Below w.heap.size w W0 := by rw [hW0]; exact below_alloc (below_alloc (Below.refl _ _) _) _
    have k0 : W0.heap[w.heap.size]? = some (.cells #[.slice A0 l0.length c0] 40 (0, 0)) := by rw [hW0]; exact blk_alloc (blk_new w _) _
    have k1 : W0.heap[w.heap.size + 1]? = some (.cells #[.int .i64 a1] 3 (0, 0)) := by
      have := blk_new (w.alloc (.cells #[.slice A0 l0.length c0] 40)) (.cells #[.int .i64 a1] 3)
      rw [World.size_alloc] at this
      rw [hW0]; exact this
    have hc0' : W0.cell? ⟨w.heap.size, 0, none⟩ = some (.slice A0 l0.length c0) := (blk_cell k0 0).trans rfl
    have hc1' : W0.cell? ⟨w.heap.size + 1, 0, none⟩ = some (.int .i64 a1) := (blk_cell k1 0).trans rfl
    have HW := Aside0.mk hW0
    clear hW0 k0 k1
    go_enter Try.func30, Try.ntmps30
    go_wp2_with fail
    rw [← HW.out]
    refine (FindW.search 54 #[.pointer (some ⟨w.heap.size, 0, none⟩), .pointer (some ⟨w.heap.size + 1, 0, none⟩)] l0.length (fun i => decide (a1 < (rd_T53 l0 (i : Nat)).f1)) W0 ?eg (by omega) ?hf ?hmono).mono ?_
    case eg => exact enters_of Try.func54 (by kernel_rfl) rfl
    case hf =>
      intro m os i hi
      obtain ⟨ad, hA, hx0, hx1⟩ := at_T53 HR0.out (i : Int) (by omega) (by omega)
      subst hA
      rw [Int.toNat_natCast] at hx1
      have hx2 := (hB0.cell (World.block_lt_of_cell? w _ hx1)).trans hx1
      refine (find_at ad l0.length c0 w.heap.size (w.heap.size + 1) i a1 _ _ (grow_cell hc0' m os) (grow_cell hc1' m os) (grow_cell hx2 m os) hi).mono ?_
      rintro e w' ⟨rfl, q, rfl⟩
      exact ⟨rfl, q, #[], (grow_empty _).symm⟩
    case hmono =>
      intro a b hab hb hp
      have h1 := List.all_eq_true.1 (List.all_eq_true.1 HF.out b (List.mem_range.2 hb)) a (List.mem_range.2 (by omega))
      simp only [decide_eq_true_eq] at h1 hp ⊢
      omega
    rintro e w' ⟨rfl, q, os, rfl⟩
    rw [find_count]
    have hBg := grow_below hB0 q os
    have hw64 : wrap64 (((l0.filter fun x => decide (x.f1 ≤ a1)).length : Int) - 1) = findS l0 a1 := by
      have : (l0.filter fun x => decide (x.f1 ≤ a1)).length ≤ l0.length := List.length_filter_le _ _
      unfold findS wrap64; omega
    go_wp2_with fail
    go_ret
    exact ⟨by simp [hw64], hBg⟩
  · cases h
end

end Go.Proofs.Ythdlikiakegekaa.S
