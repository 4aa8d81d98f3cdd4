-- Written for this claim by a program of the session (myprint.py), out of the translation's own print; Lean checks it.
import Derived.Test.YthdlikiakegekaaHx0
import Derived.Test.YthdlikiakegekaaHx2
import Derived.Test.YthdlikiakegekaaHx4
namespace Go.Proofs.Ythdlikiakegekaa.S
open Go.RowKit Go.Proofs.YthdlikiakegekaaW.PrintWords Go.Proofs.YthdlikiakegekaaW.PrintLast Go.Proofs.YthdlikiakegekaaW.PrintMore
attribute [local go_sem] max2_int min2_int max_two min_two max_three min_three max_four min_four   -- for this text's walks alone
set_option linter.unusedVariables false
set_option linter.unusedSimpArgs false

/-! ### header_Get: function 18 -/
section
open OctW RoundW HdrW
attribute [local go_sem] Oper.semAt_some wide_fn wide_depth
theorem num_tot (t : ByteArray) (sz : Int) (b : Bool) (n : Int) : ∃ v t' b', octet_Reader_Num.f t sz b n = some (v, t', sz, b') := by
  unfold octet_Reader_Num.f octet_Reader_Text.f octet_Reader_Bad.f
  simp only [Option.bind_some]
  split
  · cases b <;> exact ⟨_, _, _, rfl⟩
  · split
    · exact ⟨_, _, _, rfl⟩
    · split
      · exact ⟨_, _, _, rfl⟩
      · split
        · exact ⟨_, _, _, rfl⟩
        · rw [if_pos (by omega), if_pos (by omega)]
          exact ⟨_, _, _, rfl⟩
abbrev GS : Type := ByteArray × Bool × (Fin 7 → Int)
def gstep (st : GS) (x : Fin 7) : GS :=
  match octet_Reader_Num.f st.1 25 st.2.1 (fsz x) with
  | some (v, t', _, b') => (t', b', fun j => if j = x then v else st.2.2 j)
  | none => st
def gall (t : ByteArray) (b : Bool) (l : List (Fin 7)) : GS := l.foldl gstep (t, b, fun _ => 0)
def hcells (f : Fin 7 → Int) : Array Value := #[.int .i64 (f 0), .int .i64 (f 2), .int .i64 (f 1), .int .i64 (f 3), .int .i64 (f 4), .int .i64 (f 5)]
def header_Get.f (l0 : List Int) (s : ByteArray) : Option Head8 :=
  if l0 = CrcX.crcTab ∧ s.size ≤ 100000 then
    (if (s.size : Int) < 25 then some (hnone 2) else
      (octet_Reader_Text.f (s.extract 0 25) 25 true 4).bind fun x =>
      (if x.1.toList = ([83, 80, 76, 49] : List UInt8) then
        (octet_Reader_Num.f (gall x.2.1 x.2.2.2 (List.finRange 7)).1 25 (gall x.2.1 x.2.2.2 (List.finRange 7)).2.1 4).bind fun y =>
        (if y.1 = ((CrcLem.sumN 0 (s.extract 0 21).data.toList : Nat) : Int) then
          (header_Right.f ((gall x.2.1 x.2.2.2 (List.finRange 7)).2.2 0) ((gall x.2.1 x.2.2.2 (List.finRange 7)).2.2 2) ((gall x.2.1 x.2.2.2 (List.finRange 7)).2.2 1) ((gall x.2.1 x.2.2.2 (List.finRange 7)).2.2 3) ((gall x.2.1 x.2.2.2 (List.finRange 7)).2.2 4) ((gall x.2.1 x.2.2.2 (List.finRange 7)).2.2 5) ((gall x.2.1 x.2.2.2 (List.finRange 7)).2.2 6)).bind fun t =>
          (if t = true then some (hout (gall x.2.1 x.2.2.2 (List.finRange 7)).2.2 0) else some (hnone 4))
        else some (hnone 5))
      else some (hnone 4)))
  else none
theorem set_at (gh gp : Nat) (hne : gh ≠ gp) (f : Fin 7 → Int) (v : Int) : ∀ x : Fin 7, ∃ q o : Nat, (ptrA gh gp)[x]'(x.isLt) = .pointer (some ⟨q, o, none⟩) ∧ (sizA)[x]'(x.isLt) = .int .i64 (fsz x) ∧ (q = gh ∨ q = gp) ∧
    ∀ W : World, W.heap[gh]? = some (.cells (hcells f) 23 (0, 0)) → W.heap[gp]? = some (.cells #[.int .i64 (f 6)] 3 (0, 0)) → (∃ u, W.cell? ⟨q, o, none⟩ = some u) ∧ W.frozen? ⟨q, o, none⟩ = false ∧
      (W.setCell ⟨q, o, none⟩ (.int .i64 v)).heap[gh]? = some (.cells (hcells fun j => if j = x then v else f j) 23 (0, 0)) ∧ (W.setCell ⟨q, o, none⟩ (.int .i64 v)).heap[gp]? = some (.cells #[.int .i64 ((fun j => if j = x then v else f j) 6)] 3 (0, 0)) := by
  rintro ⟨i, hi⟩
  have hk : ∀ (W : World) (o : Nat) (u : Value), (W.setCell ⟨gh, o, none⟩ u).heap[gp]? = W.heap[gp]? := fun W o u => Below.heap_setCell W _ u gp (fun e => hne e.symm)
  have hk2 : ∀ (W : World) (o : Nat) (u : Value), (W.setCell ⟨gp, o, none⟩ u).heap[gh]? = W.heap[gh]? := fun W o u => Below.heap_setCell W _ u gh hne
  match i, hi with
  | 0, _ => exact ⟨gh, 0, rfl, rfl, .inl rfl, fun W h1 h2 => ⟨⟨_, (blk_cell h1 0).trans rfl⟩, blk_frozen h1 0, blk_put h1 0 _ rfl, (hk W 0 _).trans h2⟩⟩
  | 1, _ => exact ⟨gh, 2, rfl, rfl, .inl rfl, fun W h1 h2 => ⟨⟨_, (blk_cell h1 2).trans rfl⟩, blk_frozen h1 2, blk_put h1 2 _ rfl, (hk W 2 _).trans h2⟩⟩
  | 2, _ => exact ⟨gh, 1, rfl, rfl, .inl rfl, fun W h1 h2 => ⟨⟨_, (blk_cell h1 1).trans rfl⟩, blk_frozen h1 1, blk_put h1 1 _ rfl, (hk W 1 _).trans h2⟩⟩
  | 3, _ => exact ⟨gh, 3, rfl, rfl, .inl rfl, fun W h1 h2 => ⟨⟨_, (blk_cell h1 3).trans rfl⟩, blk_frozen h1 3, blk_put h1 3 _ rfl, (hk W 3 _).trans h2⟩⟩
  | 4, _ => exact ⟨gh, 4, rfl, rfl, .inl rfl, fun W h1 h2 => ⟨⟨_, (blk_cell h1 4).trans rfl⟩, blk_frozen h1 4, blk_put h1 4 _ rfl, (hk W 4 _).trans h2⟩⟩
  | 5, _ => exact ⟨gh, 5, rfl, rfl, .inl rfl, fun W h1 h2 => ⟨⟨_, (blk_cell h1 5).trans rfl⟩, blk_frozen h1 5, blk_put h1 5 _ rfl, (hk W 5 _).trans h2⟩⟩
  | 6, _ => exact ⟨gp, 0, rfl, rfl, .inr rfl, fun W h1 h2 => ⟨⟨_, (blk_cell h2 0).trans rfl⟩, blk_frozen h2 0, (hk2 W 0 _).trans h1, blk_put h2 0 _ rfl⟩⟩
theorem keepsFrom_but {B g : Nat} {W W' : World} {cs : Array Value} {ty : Nat} {fr : Nat × Nat} (h : KeepBut W W' g none) (hg : W.heap[g]? = some (.cells cs ty fr)) : KeepsFrom B W W' :=
  ⟨h.1, fun k o _ hk hc => (h.2 k (Array.getElem?_eq_some_iff.1 hk).1 (fun e => by subst e; rw [hg] at hk; obtain rfl := Option.some.inj hk; cases hc) (by simp)).trans hk⟩
theorem gall_snoc (t : ByteArray) (b : Bool) (l : List (Fin 7)) (x : Fin 7) : gall t b (l ++ [x]) = gstep (gall t b l) x := by unfold gall; rw [List.foldl_append]; rfl
theorem gstep_eq (S0 : GS) (x : Fin 7) {v : Int} {t' : ByteArray} {b' : Bool} (h : octet_Reader_Num.f S0.1 25 S0.2.1 (fsz x) = some (v, t', 25, b')) : gstep S0 x = (t', b', fun j => if j = x then v else S0.2.2 j) := by
  unfold gstep; rw [h]
theorem text_size {t : ByteArray} {sz : Int} {b : Bool} {n : Int} {x1 x2 : ByteArray} {x3 : Int} {x4 : Bool} (h : octet_Reader_Text.f t sz b n = some (x1, x2, x3, x4)) : x3 = sz := by
  unfold octet_Reader_Text.f octet_Reader_Bad.f at h
  simp only [Option.bind_some] at h
  repeat' split at h
  all_goals first | (cases h; done) | (simp only [Option.some.injEq, Prod.mk.injEq] at h; exact h.2.2.1.symm)
theorem between_tot (a b c : Int) : ∃ t, header_between.f a b c = some t := by
  unfold header_between.f; split <;> exact ⟨_, rfl⟩
theorem right_tot (a0 a1 a2 a3 a4 a5 p : Int) : ∃ t, header_Right.f a0 a1 a2 a3 a4 a5 p = some t := by
  unfold header_Right.f
  obtain ⟨t0, h0⟩ := between_tot a0 1 2
  obtain ⟨t1, h1⟩ := between_tot a2 0 10
  obtain ⟨t2, h2⟩ := between_tot a1 1 192000
  obtain ⟨t3, h3⟩ := between_tot a3 0 128
  obtain ⟨t4, h4⟩ := between_tot a4 0 128
  obtain ⟨t5, h5⟩ := between_tot a5 0 131072
  obtain ⟨t6, h6⟩ := between_tot p 0 262144
  rw [h0, h1, h2, h3, h4, h5, h6]
  simp only [Option.bind_some]
  repeat' split
  all_goals exact ⟨_, rfl⟩
def HGet14.T14 : Bool × List (List Nat × List Nat) := (true, [([], []), ([0], [0]), ([], []), ([], []), ([3], [3]), ([2, 4, 1], [2, 4]), ([5], [5]), ([1, 6], [1, 6]), ([7, 5], [7])])
def HGet14.B14 : List Nat := [0, 1, 0, 0, 8, 31, 63, 127, 255]
theorem HGet14.tab14 : rtab .any (opsOf Try.f18 14) = HGet14.T14 := by kernel_rfl
theorem HGet14.bits14 : waitsOk HGet14.T14.2 HGet14.B14 = true := by kernel_rfl
/- 0:load>37; 1:call>38; 2:move>39; 3:move>40; 4:slice>41; 5:call>42; 6:convert>43; 7:binOp>44; 8:assign>36 -/
def HGet18.T18 : Bool × List (List Nat × List Nat) := (true, [([], []), ([], []), ([0, 0], [0]), ([1, 2, 0, 1, 2], [1]), ([3, 0, 1, 2, 3], [])])
def HGet18.B18 : List Nat := [0, 0, 1, 7, 15]
theorem HGet18.tab18 : rtab .any (opsOf Try.f18 18) = HGet18.T18 := by kernel_rfl
theorem HGet18.bits18 : waitsOk HGet18.T18.2 HGet18.B18 = true := by kernel_rfl
/- 0:load>52; 1:load>53; 2:store>None; 3:assign>5; 4:assign>6 -/
set_option maxHeartbeats 4000000 in
set_option maxRecDepth 100000 in
theorem hg_run (a : Addr) (s : ByteArray) (R : Head8) (w : World) (hTab : ∀ i : Nat, i < 256 → w.cell? (a.add i) = some (.int .u32 (CrcLem.entryN i : Int))) (hs0 : 25 ≤ s.size) (hs : s.size ≤ 100000)
    (x1 x2 : ByteArray) (x4 : Bool) (hX : octet_Reader_Text.f (s.extract 0 25) 25 true 4 = some (x1, x2, 25, x4))
    (st : GS) (hst : st = gall x2 x4 (List.finRange 7)) (y1 : Int) (y2 : ByteArray) (y4 : Bool) (hY : octet_Reader_Num.f st.1 25 st.2.1 4 = some (y1, y2, 25, y4)) (t : Bool)
    (hT : header_Right.f (st.2.2 0) (st.2.2 2) (st.2.2 1) (st.2.2 3) (st.2.2 4) (st.2.2 5) (st.2.2 6) = some t)
    (hres : (x1.toList ≠ ([83, 80, 76, 49] : List UInt8) ∧ R = hnone 4) ∨ (x1.toList = ([83, 80, 76, 49] : List UInt8) ∧ ((y1 ≠ ((CrcLem.sumN 0 (s.extract 0 21).data.toList : Nat) : Int) ∧ R = hnone 5) ∨ (y1 = ((CrcLem.sumN 0 (s.extract 0 21).data.toList : Nat) : Int) ∧ ((t = true ∧ R = hout st.2.2 0) ∨ (t = false ∧ R = hnone 4)))))) :
    Calls Try.prog 18 #[.pointer (some a), .string s] w fun e w' => e = .returned (.tuple #[.agg #[.int .i64 R.1, .int .i64 R.2.1, .int .i64 R.2.2.1, .int .i64 R.2.2.2.1, .int .i64 R.2.2.2.2.1, .int .i64 R.2.2.2.2.2.1], .int .i64 R.2.2.2.2.2.2.1, .int .i64 R.2.2.2.2.2.2.2]) ∧ Below w.heap.size w w' := by
  have hu := Try.underlying23
  have HTab := Aside0.mk hTab
  have HRES := Aside0.mk hres
  have HT := Aside0.mk hT
  have HY := Aside0.mk hY
  have HST := Lib.hid hst
  clear hTab hres hT hY hst
  have d3 : decide ((s.size : Int) < 25) = false := decide_eq_false (by omega)
  have q1 : ((25 : Int) ≤ (s.size : Int)) = True := eq_true (by omega)
  have q2 : ((21 : Int) ≤ (s.size : Int)) = True := eq_true (by omega)
  have hNew : octet_New.f (s.extract 0 25) = some (s.extract 0 25, 25, true) := by
    unfold octet_New.f
    rw [ByteArray.size_extract, show min 25 s.size - 0 = 25 by omega]; rfl
  refine calls_marks Try.func18 rfl ?_
  simp only [Try.ntmps18, List.size_toArray, List.length_cons, List.length_nil, Nat.reduceAdd, Nat.reduceSub, Array.replicate_succ, Array.replicate_zero, List.push_toArray, List.append_toArray, List.nil_append, List.cons_append]
  go_upto_region 8 with (go_at_call 32; refine (octet_New.calls _ _ _ _ w _ ?hB hNew).mono ?_; (case hB => exact below_alloc (below_alloc (below_alloc (Below.refl _ _) _) _) _); rintro e w2 ⟨g, rfl, hI2, hB2, hb2⟩)
  have hgo2 := blk_below (blk_alloc (blk_alloc (blk_new w (.cells #[.int .i64 0, .int .i64 0, .int .i64 0, .int .i64 0, .int .i64 0, .int .i64 0] 23)) (.cells #[.int .i64 0, .int .i64 0, .int .i64 0, .int .i64 0, .int .i64 0, .int .i64 0] 23)) (.cells #[.int .i64 0] 3)) hb2
  have hgh2 := blk_below (blk_alloc (blk_new (w.alloc (.cells #[.int .i64 0, .int .i64 0, .int .i64 0, .int .i64 0, .int .i64 0, .int .i64 0] 23)) (.cells #[.int .i64 0, .int .i64 0, .int .i64 0, .int .i64 0, .int .i64 0, .int .i64 0] 23)) (.cells #[.int .i64 0] 3)) hb2
  have hgp2 := blk_below (blk_new ((w.alloc (.cells #[.int .i64 0, .int .i64 0, .int .i64 0, .int .i64 0, .int .i64 0, .int .i64 0] 23)).alloc (.cells #[.int .i64 0, .int .i64 0, .int .i64 0, .int .i64 0, .int .i64 0, .int .i64 0] 23)) (.cells #[.int .i64 0] 3)) hb2
  rw [World.size_alloc] at hgh2 hgp2
  rw [World.size_alloc] at hgp2
  have hgo3 := blk_alloc hgo2 (.cells #[.pointer (some ⟨g, 0, none⟩)] 55)
  have hgh3 := blk_alloc hgh2 (.cells #[.pointer (some ⟨g, 0, none⟩)] 55)
  have hgp3 := blk_alloc hgp2 (.cells #[.pointer (some ⟨g, 0, none⟩)] 55)
  have hgr3 := blk_new w2 (.cells #[.pointer (some ⟨g, 0, none⟩)] 55)
  have hI3 := hI2.alloc (.cells #[.pointer (some ⟨g, 0, none⟩)] 55)
  have hB3 := below_alloc hB2 (.cells #[.pointer (some ⟨g, 0, none⟩)] 55)
  have hob : w.heap.size ≤ w.heap.size := Nat.le_refl _
  have hhb : w.heap.size ≤ w.heap.size + 1 := by omega
  have hpb : w.heap.size ≤ w.heap.size + 1 + 1 := by omega
  have n1 : w.heap.size + 1 ≠ w.heap.size + 1 + 1 := by omega
  have n2 : w.heap.size ≠ w.heap.size + 1 := by omega
  have n3 : w.heap.size ≠ w.heap.size + 1 + 1 := by omega
  have n4 : w2.heap.size ≠ w.heap.size + 1 := by have := blk_lt hgh2; omega
  have n5 : w2.heap.size ≠ w.heap.size + 1 + 1 := by have := blk_lt hgp2; omega
  have n6 : w2.heap.size ≠ g := by have := hI2.lt; omega
  clear hgo2 hgh2 hgp2 hI2 hB2 hb2
  generalize w.heap.size + 1 + 1 = gp at *
  generalize w.heap.size + 1 = gh at *
  obtain ⟨go, hgo⟩ : ∃ go, go = w.heap.size := ⟨_, rfl⟩
  rw [← hgo] at hgo3 n2 n3 ⊢
  generalize w2.alloc (.cells #[.pointer (some ⟨g, 0, none⟩)] 55) = w3 at *
  generalize w2.heap.size = gr at *
  have hob : w.heap.size ≤ go := by omega
  have HGO := Lib.hid hgo
  clear hgo
  have m1 : g ≠ gh := fun e => by subst e; have := hI3.1.symm.trans hgh3; cases this
  have m2 : g ≠ gp := fun e => by subst e; have := hI3.1.symm.trans hgp3; cases this
  have m3 : g ≠ go := fun e => by subst e; have := hI3.1.symm.trans hgo3; cases this
  have hcr := (blk_cell hgr3 0).trans rfl
  have hcz0 : w3.cell? ⟨go, 0, none⟩ = some (.int .i64 0) := (blk_cell hgo3 0).trans rfl
  go_upto_region 10 with (go_at_call 50; refine (octet_Reader_Text.calls g _ _ _ _ _ _ _ _ w _ hI3 hB3 hX).mono ?_; rintro e w4 ⟨rfl, hI4, hB4, hk4⟩; have hgo4 := (hk4.2 go (blk_lt hgo3) m3.symm (by simp)).trans hgo3; have hgh4 := (hk4.2 gh (blk_lt hgh3) m1.symm (by simp)).trans hgh3; have hgp4 := (hk4.2 gp (blk_lt hgp3) m2.symm (by simp)).trans hgp3; have hgr4 := (hk4.2 gr (blk_lt hgr3) n6 (by simp)).trans hgr3; have z0 : w4.cell? ⟨go, 0, none⟩ = some (.int .i64 0) := (blk_cell hgo4 0).trans rfl; have z1 : w4.cell? ⟨go, 1, none⟩ = some (.int .i64 0) := (blk_cell hgo4 1).trans rfl; have z2 : w4.cell? ⟨go, 2, none⟩ = some (.int .i64 0) := (blk_cell hgo4 2).trans rfl; have z3 : w4.cell? ⟨go, 3, none⟩ = some (.int .i64 0) := (blk_cell hgo4 3).trans rfl; have z4 : w4.cell? ⟨go, 4, none⟩ = some (.int .i64 0) := (blk_cell hgo4 4).trans rfl; have z5 : w4.cell? ⟨go, 5, none⟩ = some (.int .i64 0) := (blk_cell hgo4 5).trans rfl; have fz0 := blk_frozen hgo4 0; have fz1 := blk_frozen hgo4 1; have fz2 := blk_frozen hgo4 2; have fz3 := blk_frozen hgo4 3; have fz4 := blk_frozen hgo4 4; have fz5 := blk_frozen hgo4 5)
  · have h' : (!(x1.toList == ([83, 80, 76, 49] : List UInt8))) = true := by assumption
    have hne : x1.toList ≠ ([83, 80, 76, 49] : List UInt8) := by simpa using h'
    have hR : R = hnone 4 := by
      rcases HRES.out with ⟨_, h⟩ | ⟨h, _⟩
      · exact h
      · exact absurd h hne
    subst hR
    have hgo5 := st6_blk hgo4 (.int .i64 0) (.int .i64 0) (.int .i64 0) (.int .i64 0) (.int .i64 0) (.int .i64 0)
    have hB5 := st6_below hB4 hob (.int .i64 0) (.int .i64 0) (.int .i64 0) (.int .i64 0) (.int .i64 0) (.int .i64 0)
    refine leavesM (B := w.heap.size) [] _ (Marked.nil _ _) ?_
    intro W' ⟨hs, hb⟩
    exact ⟨_, results_ctt rfl _ W' go 23 _ (0, 0) _ rfl (hs _ _ hgo5 rfl) hu rfl (by kernel_rfl), rfl, hB5.trans hb⟩
  · have h' : (!(x1.toList == ([83, 80, 76, 49] : List UInt8))) = false := by assumption
    have heq : x1.toList = ([83, 80, 76, 49] : List UInt8) := by simpa using h'
    rw [h']
    replace HRES := Aside0.mk (show (y1 ≠ ((CrcLem.sumN 0 (s.extract 0 21).data.toList : Nat) : Int) ∧ R = hnone 5) ∨ (y1 = ((CrcLem.sumN 0 (s.extract 0 21).data.toList : Nat) : Int) ∧ ((t = true ∧ R = hout st.2.2 0) ∨ (t = false ∧ R = hnone 4))) from by
      rcases HRES.out with ⟨h, _⟩ | ⟨_, h⟩
      · exact absurd heq h
      · exact h)
    clear z0 z1 z2 z3 z4 z5 fz0 fz1 fz2 fz3 fz4 fz5 hgo3 hgh3 hgp3 hgr3 hI3 hB3 hk4 hcr hcz0
    go_upto_region 14 with (go_at_call 43; refine (fields _ _ _).mono ?_; rintro e w5 ⟨rfl, rfl⟩)
    have hB5 := below_alloc (below_alloc hB4 (.cells #[.pointer (some ⟨gh, 0, none⟩)] 81)) (.cells #[.pointer (some ⟨gp, 0, none⟩)] 82)
    have hI5 := (hI4.alloc (.cells #[.pointer (some ⟨gh, 0, none⟩)] 81)).alloc (.cells #[.pointer (some ⟨gp, 0, none⟩)] 82)
    have hgo5 := blk_alloc (blk_alloc hgo4 (.cells #[.pointer (some ⟨gh, 0, none⟩)] 81)) (.cells #[.pointer (some ⟨gp, 0, none⟩)] 82)
    have hgh5 := blk_alloc (blk_alloc hgh4 (.cells #[.pointer (some ⟨gh, 0, none⟩)] 81)) (.cells #[.pointer (some ⟨gp, 0, none⟩)] 82)
    have hgp5 := blk_alloc (blk_alloc hgp4 (.cells #[.pointer (some ⟨gh, 0, none⟩)] 81)) (.cells #[.pointer (some ⟨gp, 0, none⟩)] 82)
    have hgr5 := blk_alloc (blk_alloc hgr4 (.cells #[.pointer (some ⟨gh, 0, none⟩)] 81)) (.cells #[.pointer (some ⟨gp, 0, none⟩)] 82)
    have hq1 := blk_alloc (blk_new w4 (.cells #[.pointer (some ⟨gh, 0, none⟩)] 81)) (.cells #[.pointer (some ⟨gp, 0, none⟩)] 82)
    have hq2 := blk_new (w4.alloc (.cells #[.pointer (some ⟨gh, 0, none⟩)] 81)) (.cells #[.pointer (some ⟨gp, 0, none⟩)] 82)
    rw [World.size_alloc] at hq2
    generalize (w4.alloc (.cells #[.pointer (some ⟨gh, 0, none⟩)] 81)).alloc (.cells #[.pointer (some ⟨gp, 0, none⟩)] 82) = w5 at *
    generalize w4.heap.size = B at *
    clear hgo4 hgh4 hgp4 hgr4 hI4 hB4
    refine (wpIn_wide (n := 9)).1 ?_
    refine wpIn_rangeFunc_ownH (F := Fence.wide) (n := 9) rfl (by decide) (gf := 58) (lb := #[.pointer (some ⟨B, 0, none⟩), .pointer (some ⟨B + 1, 0, none⟩)]) rfl trivial (enters_of Try.func58 (by kernel_rfl) rfl)
      (fields_stops (n := 8) (by decide) B gh gp (fun k => k = g ∨ k = gh ∨ k = gp) (fun _ => False) w5 hq1 hq2 (fun k hk => by rcases hk with rfl | rfl | rfl; exact hI5.lt; exact blk_lt hgh5; exact blk_lt hgp5) ⟨fun h => h, fun h => h⟩)
      (fun h k => TK.then_ h k) (fun W l o o' _ ho hc _ => TK.put ho hc) (Below.refl _ _) (fun _ => rfl)
      (fun pre W => IsS95 w W g (gall x2 x4 pre).1 25 (gall x2 x4 pre).2.1 ∧ (W.heap[gh]? = some (.cells (hcells (gall x2 x4 pre).2.2) 23 (0, 0)) ∧ W.heap[gp]? = some (.cells #[.int .i64 ((gall x2 x4 pre).2.2 6)] 3 (0, 0)) ∧ W.heap[go]? = some (.cells #[.int .i64 0, .int .i64 0, .int .i64 0, .int .i64 0, .int .i64 0, .int .i64 0] 23 (0, 0)) ∧ W.heap[gr]? = some (.cells #[.pointer (some ⟨g, 0, none⟩)] 55 (0, 0))) ∧ Below w.heap.size w W)
      (fun _ _ _ => False)
      (OwnFrom.and (ownFrom_cells (fun pre X Y hs hc => ⟨hc _ _ hs.1 rfl, hs.2⟩)) (OwnFrom.and (ownFrom_cells (fun pre X Y hs hc => ⟨hc _ _ hs.1 rfl, hc _ _ hs.2.1 rfl, hc _ _ hs.2.2.1 rfl, hc _ _ hs.2.2.2 rfl⟩)) (ownFrom_below (Nat.le_refl _) (hB5.size))))
      (fun _ _ _ _ _ hs _ _ => hs)
      ⟨hI5, ⟨hgh5, hgp5, hgo5, hgr5⟩, hB5⟩
      (fun x a' _ => a' = { tmps := #[.pointer (some a), .string s, undef, undef, .pointer (some ⟨go, 0, none⟩), .int .i64 0, .int .i64 0, .pointer (some ⟨gh, 0, none⟩), .pointer (some ⟨gp, 0, none⟩), .pointer (some ⟨gr, 0, none⟩), (ptrA gh gp)[x]'(x.isLt), (sizA)[x]'(x.isLt), .bool false, .pointer (some a), .bool false, undef, .bool false, .string s, .int .i64 (s.size : Nat), .bool false, undef, .string s, .string (s.extract 0 25), .pointer (some ⟨g, 0, none⟩), .pointer (some ⟨g, 0, none⟩), .string x1, .bool false, undef, .func (.func 58) #[] #[.pointer (some ⟨B, 0, none⟩), .pointer (some ⟨B + 1, 0, none⟩)], (ptrA gh gp)[x]'(x.isLt), (sizA)[x]'(x.isLt), undef, undef, undef, undef, undef, undef, undef, undef, undef, undef, undef, undef, undef, undef, undef, undef, undef, undef, undef, undef, undef, undef, undef], defers := [] }) (fun _ _ _ _ _ _ hs _ _ => hs) ?assign ?body ?done ?stop
    case assign =>
      intro l pre x W3 K hi hK
      unfold encF
      gi_wp2
      exact hK _ _ (KeepsFrom.refl _ _) (TK.refl _ _ _) hi rfl
    case body =>
      rintro l pre x a' W hl _ ⟨hIb, ⟨hh, hp, ho, hr⟩, hBb⟩ rfl hlt
      obtain ⟨v, t', b', hN⟩ := num_tot (gall x2 x4 pre).1 25 (gall x2 x4 pre).2.1 (fsz x)
      have hsn := Lib.hid ((gall_snoc x2 x4 pre x).trans (gstep_eq _ x hN))
      obtain ⟨q, o, e1, e2, e3, e4⟩ := set_at gh gp n1 (gall x2 x4 pre).2.2 v x
      have hcr := (blk_cell hr 0).trans rfl
      have hf := fsz_le x
      rw [e1, e2]
      generalize hs_ : fsz x = sz at *
      clear e1 e2 hs_
      generalize gall x2 x4 pre = S0 at hIb hh hp hN hsn e4
      gi_wp2_with fail
      refine (callsR (octet_Reader_Num.calls g _ _ _ _ _ _ _ _ w _ hIb hBb hN)).mono ?_
      rintro e W5 ⟨rfl, hI6, hB6, hk6⟩
      have hh6 := (hk6.2 gh (blk_lt hh) m1.symm (by simp)).trans hh
      have hp6 := (hk6.2 gp (blk_lt hp) m2.symm (by simp)).trans hp
      have ho6 := (hk6.2 go (blk_lt ho) m3.symm (by simp)).trans ho
      have hr6 := (hk6.2 gr (blk_lt hr) n6 (by simp)).trans hr
      obtain ⟨⟨u, hu1⟩, hu2, hu3, hu4⟩ := e4 W5 hh6 hp6
      have hqo : q ≠ go := by rcases e3 with rfl | rfl <;> omega
      have hqr : q ≠ gr := by rcases e3 with rfl | rfl <;> omega
      have hqg : q ≠ g := by rcases e3 with rfl | rfl <;> omega
      have hqb : w.heap.size ≤ q := by rcases e3 with rfl | rfl <;> omega
      have hk7 := (KeepBut.refl W5 q none).set_ o (.int .i64 v)
      gi_wp2
      refine ⟨?_, ?_, ?_, ⟨?_, ?_, ?_, ?_⟩, ?_⟩
      · exact (keepsFrom_but hk6 hIb.1).trans (show KeepsFrom _ W5 _ from by rcases e3 with rfl | rfl; exact keepsFrom_but hk7 hh6; exact keepsFrom_but hk7 hp6)
      · exact TK.then_ (TK.keep hk6 (.inl rfl)) (TK.keep hk7 (by rcases e3 with rfl | rfl; exact .inr (.inl rfl); exact .inr (.inr rfl)))
      · rw [hsn.out]; exact ⟨by rw [hk7.2 g (blk_lt hI6.1) hqg.symm (by simp)]; exact hI6.1, hI6.2⟩
      · rw [hsn.out]; exact hu3
      · rw [hsn.out]; exact hu4
      · exact (hk7.2 go (blk_lt ho6) hqo.symm (by simp)).trans ho6
      · exact (hk7.2 gr (blk_lt hr6) hqr.symm (by simp)).trans hr6
      · exact below_set hB6 hqb
    case done =>
      rintro D zs W5 hDl rfl ⟨hIb, ⟨hh, hp, ho, hr⟩, hBb⟩ hKD
      have hcr := (blk_cell hr 0).trans rfl
      rw [← HST.out] at hIb hh hp
      have hDg : D ≠ g := fun e => by subst e; rw [hIb.1] at hKD; cases hKD
      have hDo : D ≠ go := fun e => by subst e; rw [ho] at hKD; cases hKD
      have hDl2 := Nat.le_trans hB5.size hDl
      have hgr6 : ∀ w6, KeepBut W5.drew w6 g none → w6.cell? ⟨gr, 0, none⟩ = some (.pointer (some ⟨g, 0, none⟩)) := fun w6 hk6 => (blk_cell ((hk6.2 gr (blk_lt hr) n6 (by simp)).trans hr) 0).trans rfl
      have hszb : (s.extract 0 21).size ≤ 140737488351232 := by rw [ByteArray.size_extract]; omega
      have hsum := CrcLem.sumN_lt 0 (s.extract 0 21).data.toList (by decide)
      have hw6 : wrap64 ((CrcLem.sumN 0 (s.extract 0 21).data.toList : Nat) : Int) = ((CrcLem.sumN 0 (s.extract 0 21).data.toList : Nat) : Int) := by unfold wrap64; omega
      have hSum : ∀ W6, Below w.heap.size w W6 → Calls Try.prog 45 #[.pointer (some a), .string (s.extract 0 21)] W6 fun e w' => e = .returned (.int .u32 ((CrcLem.sumN 0 (s.extract 0 21).data.toList : Nat) : Int)) ∧ ∃ n, w' = W6.drewN n := fun W6 hB6 => CrcW.sum_at a _ _ hszb (fun j hj => (hB6.cell (World.block_lt_of_cell? w _ (HTab.out j hj))).trans (HTab.out j hj))
      generalize CrcLem.sumN 0 (s.extract 0 21).data.toList = CS at *
      clear hsum
      gi_wp2
      go_wp2_with fail
      refine wp_strict ?_
      refine start_ (n := 9) (S := fun w' => w'.cell? ⟨gr, 0, none⟩ = some (.pointer (some ⟨g, 0, none⟩))) (ds := []) #[false, false, false, false, false, false, false, false, false] (by kernel_rfl) rfl rfl hcr (fun hHeld => ?_); refine with_tabW HGet14.tab14 HGet14.bits14 (fun HT_ HW_ => ?_)
      refine pure_ (i := 2) (N := (some 39)) (v := ?_) (a' := ?_) #[false, false, true, false, false, false, false, false, false] rfl rfl (any_of HT_.out (by kernel_rfl)) (fun _ _ _ h => h) (Or.inl ⟨by rfl, ?_⟩) ?_ ?_
      rotate_left
      · intro w'
        go_simp
        with_reducible rfl
      rotate_left
      · simp only [Act.put, List.setIfInBounds_toArray, List.set_cons_zero, List.set_cons_succ, i64_w, i32_w]
        rfl
      refine pure_ (i := 3) (N := (some 40)) (v := ?_) (a' := ?_) #[false, false, true, true, false, false, false, false, false] rfl rfl (any_of HT_.out (by kernel_rfl)) (fun _ _ _ h => h) (Or.inl ⟨by rfl, ?_⟩) ?_ ?_
      rotate_left
      · intro w'
        go_simp
        with_reducible rfl
      rotate_left
      · simp only [Act.put, List.setIfInBounds_toArray, List.set_cons_zero, List.set_cons_succ, i64_w, i32_w]
        rfl
      refine pure_ (i := 4) (N := (some 41)) (v := ?_) (a' := ?_) #[false, false, true, true, true, false, false, false, false] rfl rfl (any_of HT_.out (by kernel_rfl)) (fun _ _ _ h => h) (Or.inl ⟨by rfl, ?_⟩) ?_ ?_
      rotate_left
      · intro w'
        go_simp
        with_reducible rfl
      rotate_left
      · simp only [Act.put, List.setIfInBounds_toArray, List.set_cons_zero, List.set_cons_succ, i64_w, i32_w]
        rfl
      refine take_ (i := 0) (N := (some 37)) (v := ?_) (a' := ?_) #[true, false, true, true, true, false, false, false, false] rfl rfl (take_ofW HT_.out HW_.out (by kernel_rfl)) (fun _ _ _ h => h) (Or.inl ⟨by rfl, ?_⟩) hHeld ?_ ?_
      rotate_left
      · intro w' hS_
        go_simp
        go_simp; with_reducible rfl
      rotate_left
      · simp only [Act.put, List.setIfInBounds_toArray, List.set_cons_zero, List.set_cons_succ, i64_w, i32_w]
        rfl
      refine one_ (i := 1) (N := (some 38)) #[true, true, true, true, true, false, false, false, false] rfl rfl (one_of HT_.out (by kernel_rfl)) (by decide) (fun K hK => ?_)
      refine goes_ Try.func51 (by kernel_rfl) rfl #[.pointer (some ⟨g, 0, none⟩), .int .i64 4] (by rfl) rfl rfl (by (try simp only [List.map_toArray, List.map_cons, List.map_nil]); first | done | rfl) ?_
      refine (octet_Reader_Num.calls g _ _ _ _ _ _ _ _ w W5.drew hIb (below_drew hBb) HY.out).mono ?_
      rintro e w6 ⟨rfl, hI6, hB6, hk6⟩
      refine ⟨_, rfl, ?_⟩
      refine hK.out _ _ (hgr6 w6 hk6) (fun hHeld => ?_)
      clear hK K
      refine norm_ (a' := ?_) ?_ ?_
      rotate_left
      · show Act.put _ (some 38) _ = _
        simp only [Act.put, List.setIfInBounds_toArray, List.set_cons_zero, List.set_cons_succ, i64_w, i32_w]
        rfl
      refine one_ (i := 5) (N := (some 42)) #[true, true, true, true, true, true, false, false, false] rfl rfl (one_of HT_.out (by kernel_rfl)) (by decide) (fun K hK => ?_)
      refine goes_ Try.func45 (by kernel_rfl) rfl #[.pointer (some a), .string (s.extract 0 21)] (by rfl) rfl rfl (by (try simp only [List.map_toArray, List.map_cons, List.map_nil]); first | done | rfl) ?_
      refine (hSum w6 hB6).mono ?_
      rintro e w7 ⟨rfl, ⟨n7, rfl⟩⟩
      refine ⟨_, rfl, ?_⟩
      refine hK.out _ _ hHeld (fun hHeld => ?_)
      clear hK K
      refine norm_ (a' := ?_) ?_ ?_
      rotate_left
      · show Act.put _ (some 42) _ = _
        simp only [Act.put, List.setIfInBounds_toArray, List.set_cons_zero, List.set_cons_succ, i64_w, i32_w]
        rfl
      refine pure_ (i := 6) (N := (some 43)) (v := ?_) (a' := ?_) #[true, true, true, true, true, true, true, false, false] rfl rfl (any_of HT_.out (by kernel_rfl)) (fun _ _ _ h => h) (Or.inl ⟨by rfl, ?_⟩) ?_ ?_
      rotate_left
      · intro w'
        go_simp
        with_reducible rfl
      rotate_left
      · simp only [Act.put, List.setIfInBounds_toArray, List.set_cons_zero, List.set_cons_succ, i64_w, i32_w]
        rfl
      refine pure_ (i := 7) (N := (some 44)) (v := ?_) (a' := ?_) #[true, true, true, true, true, true, true, true, false] rfl rfl (any_of HT_.out (by kernel_rfl)) (fun _ _ _ h => h) (Or.inl ⟨by rfl, ?_⟩) ?_ ?_
      rotate_left
      · intro w'
        go_simp
        with_reducible rfl
      rotate_left
      · simp only [Act.put, List.setIfInBounds_toArray, List.set_cons_zero, List.set_cons_succ, i64_w, i32_w]
        rfl
      refine pure_ (i := 8) (N := (some 36)) (v := ?_) (a' := ?_) #[true, true, true, true, true, true, true, true, true] rfl rfl (any_of HT_.out (by kernel_rfl)) (fun _ _ _ h => h) (Or.inl ⟨by rfl, ?_⟩) ?_ ?_
      rotate_left
      · intro w'
        go_simp
        with_reducible rfl
      rotate_left
      · simp only [Act.put, List.setIfInBounds_toArray, List.set_cons_zero, List.set_cons_succ, i64_w, i32_w]
        rfl
      refine done_ (done_of HT_.out (by kernel_rfl)) ?_
      refine strict_normal ?_
      have hh6 : (w6.drewN n7).heap[gh]? = some (.cells #[.int .i64 (st.2.2 0), .int .i64 (st.2.2 2), .int .i64 (st.2.2 1), .int .i64 (st.2.2 3), .int .i64 (st.2.2 4), .int .i64 (st.2.2 5)] 23 (0, 0)) := (hk6.2 gh (blk_lt hh) m1.symm (by simp)).trans hh
      have hp6 : (w6.drewN n7).heap[gp]? = some _ := (hk6.2 gp (blk_lt hp) m2.symm (by simp)).trans hp
      have ho6 : (w6.drewN n7).heap[go]? = some _ := (hk6.2 go (blk_lt ho) m3.symm (by simp)).trans ho
      have hD6 : (w6.drewN n7).heap[D]? = some (.deferred (some [])) := (hk6.2 D (blk_lt hKD) hDg (by simp)).trans hKD
      have hB7 : Below w.heap.size w (w6.drewN n7) := pw_below_drewN hB6 n7
      generalize w6.drewN n7 = w7 at *
      clear hI6 hk6 hB6 hgr6 hHeld hcr hIb hh hp ho hr hBb hSum
      have z0 : w7.cell? ⟨go, 0, none⟩ = some (.int .i64 0) := (blk_cell ho6 0).trans rfl
      have z1 : w7.cell? ⟨go, 1, none⟩ = some (.int .i64 0) := (blk_cell ho6 1).trans rfl
      have z2 : w7.cell? ⟨go, 2, none⟩ = some (.int .i64 0) := (blk_cell ho6 2).trans rfl
      have z3 : w7.cell? ⟨go, 3, none⟩ = some (.int .i64 0) := (blk_cell ho6 3).trans rfl
      have z4 : w7.cell? ⟨go, 4, none⟩ = some (.int .i64 0) := (blk_cell ho6 4).trans rfl
      have z5 : w7.cell? ⟨go, 5, none⟩ = some (.int .i64 0) := (blk_cell ho6 5).trans rfl
      have fz0 := blk_frozen ho6 0
      have fz1 := blk_frozen ho6 1
      have fz2 := blk_frozen ho6 2
      have fz3 := blk_frozen ho6 3
      have fz4 := blk_frozen ho6 4
      have fz5 := blk_frozen ho6 5
      have k0 : w7.cell? ⟨gh, 0, none⟩ = some (.int .i64 (st.2.2 0)) := (blk_cell hh6 0).trans rfl
      have k1 : w7.cell? ⟨gh, 1, none⟩ = some (.int .i64 (st.2.2 2)) := (blk_cell hh6 1).trans rfl
      have k2 : w7.cell? ⟨gh, 2, none⟩ = some (.int .i64 (st.2.2 1)) := (blk_cell hh6 2).trans rfl
      have k3 : w7.cell? ⟨gh, 3, none⟩ = some (.int .i64 (st.2.2 3)) := (blk_cell hh6 3).trans rfl
      have k4 : w7.cell? ⟨gh, 4, none⟩ = some (.int .i64 (st.2.2 4)) := (blk_cell hh6 4).trans rfl
      have k5 : w7.cell? ⟨gh, 5, none⟩ = some (.int .i64 (st.2.2 5)) := (blk_cell hh6 5).trans rfl
      have k6 : w7.cell? ⟨gp, 0, none⟩ = some (.int .i64 (st.2.2 6)) := (blk_cell hp6 0).trans rfl
      have hHT := HT.out
      have hHR := HRES.out
      have hout : R = hout st.2.2 0 ↔ R = (st.2.2 0, st.2.2 2, st.2.2 1, st.2.2 3, st.2.2 4, st.2.2 5, st.2.2 6, 0) := Iff.rfl
      rw [hout] at hHR
      clear HT HRES HST HY hout
      generalize st.2.2 0 = v0 at *
      generalize st.2.2 1 = v1 at *
      generalize st.2.2 2 = v2 at *
      generalize st.2.2 3 = v3 at *
      generalize st.2.2 4 = v4 at *
      generalize st.2.2 5 = v5 at *
      generalize st.2.2 6 = v6 at *
      have HR2 := Aside0.mk hHR
      clear hHR
      go_upto_region 16 with (fail)
      · have h' : (y1 != (CS : Int)) = true := by assumption
        have hne : y1 ≠ (CS : Int) := by simpa using h'
        have hR : R = hnone 5 := by
          rcases HR2.out with ⟨_, h⟩ | ⟨h, _⟩
          · exact h
          · exact absurd h hne
        subst hR
        have hgo9 := st6_blk ho6 (.int .i64 0) (.int .i64 0) (.int .i64 0) (.int .i64 0) (.int .i64 0) (.int .i64 0)
        have hB9 := st6_below hB7 hob (.int .i64 0) (.int .i64 0) (.int .i64 0) (.int .i64 0) (.int .i64 0) (.int .i64 0)
        have hD9 := ((st6_keep w7 go (.int .i64 0) (.int .i64 0) (.int .i64 0) (.int .i64 0) (.int .i64 0) (.int .i64 0)).2 D (blk_lt hD6) hDo (by simp)).trans hD6
        refine leavesM (B := w.heap.size) [D] _ ((Marked.nil _ _).cons hDl2 hD9 (by simp)) ?_
        intro W' ⟨hs, hb⟩
        exact ⟨_, results_ctt rfl _ W' go 23 _ (0, 0) _ rfl (hs _ _ hgo9 rfl) hu rfl (by kernel_rfl), rfl, hB9.trans hb⟩
      · have h' : (y1 != (CS : Int)) = false := by assumption
        have heq : y1 = (CS : Int) := by simpa using h'
        have hR3 : (t = true ∧ R = (v0, v2, v1, v3, v4, v5, v6, 0)) ∨ (t = false ∧ R = hnone 4) := by
          rcases HR2.out with ⟨h, _⟩ | ⟨_, h⟩
          · exact absurd heq h
          · exact h
        rcases hR3 with ⟨rfl, rfl⟩ | ⟨rfl, rfl⟩
        · go_upto_region 18 with (go_at_call 15; refine (header_Right.calls _ _ _ _ _ _ _ _ _ hHT).mono ?_; rintro e w8 ⟨rfl, hb8⟩; have ho8 := blk_below ho6 hb8; have hh8 := blk_below hh6 hb8; have hp8 := blk_below hp6 hb8; have hD8 := blk_below hD6 hb8; have hB8 := below_step hB7 hb8; clear z0 z1 z2 z3 z4 z5 fz0 fz1 fz2 fz3 fz4 fz5 k0 k1 k2 k3 k4 k5 k6; have z0 : w8.cell? ⟨go, 0, none⟩ = some (.int .i64 0) := (blk_cell ho8 0).trans rfl; have z1 : w8.cell? ⟨go, 1, none⟩ = some (.int .i64 0) := (blk_cell ho8 1).trans rfl; have z2 : w8.cell? ⟨go, 2, none⟩ = some (.int .i64 0) := (blk_cell ho8 2).trans rfl; have z3 : w8.cell? ⟨go, 3, none⟩ = some (.int .i64 0) := (blk_cell ho8 3).trans rfl; have z4 : w8.cell? ⟨go, 4, none⟩ = some (.int .i64 0) := (blk_cell ho8 4).trans rfl; have z5 : w8.cell? ⟨go, 5, none⟩ = some (.int .i64 0) := (blk_cell ho8 5).trans rfl; have fz0 := blk_frozen ho8 0; have fz1 := blk_frozen ho8 1; have fz2 := blk_frozen ho8 2; have fz3 := blk_frozen ho8 3; have fz4 := blk_frozen ho8 4; have fz5 := blk_frozen ho8 5)
          have hS9a : (World.drew (st6 w8 go (.int .i64 v0) (.int .i64 v2) (.int .i64 v1) (.int .i64 v3) (.int .i64 v4) (.int .i64 v5))).heap[gh]? = some (.cells #[.int .i64 v0, .int .i64 v2, .int .i64 v1, .int .i64 v3, .int .i64 v4, .int .i64 v5] 23 (0, 0)) := blk_drew (((st6_keep w8 go (.int .i64 v0) (.int .i64 v2) (.int .i64 v1) (.int .i64 v3) (.int .i64 v4) (.int .i64 v5)).2 gh (blk_lt hh8) n2.symm (by simp)).trans hh8)
          have hS9b : (World.drew (st6 w8 go (.int .i64 v0) (.int .i64 v2) (.int .i64 v1) (.int .i64 v3) (.int .i64 v4) (.int .i64 v5))).heap[gp]? = some (.cells #[.int .i64 v6] 3 (0, 0)) := blk_drew (((st6_keep w8 go (.int .i64 v0) (.int .i64 v2) (.int .i64 v1) (.int .i64 v3) (.int .i64 v4) (.int .i64 v5)).2 gp (blk_lt hp8) n3.symm (by simp)).trans hp8)
          unfold st6 at hS9a hS9b
          have HS9a := Aside0.mk hS9a
          have HS9b := Aside0.mk hS9b
          clear hS9a hS9b
          refine wp_strict ?_
          refine start_ (n := 5) (S := fun w' => w'.heap[gh]? = some (.cells #[.int .i64 v0, .int .i64 v2, .int .i64 v1, .int .i64 v3, .int .i64 v4, .int .i64 v5] 23 (0, 0)) ∧ w'.heap[gp]? = some (.cells #[.int .i64 v6] 3 (0, 0))) (ds := []) #[false, false, false, false, false] (by kernel_rfl) rfl rfl ⟨hh8, hp8⟩ (fun hHeld => ?_); refine with_tabW HGet18.tab18 HGet18.bits18 (fun HT_ HW_ => ?_)
          refine take_ (i := 0) (N := (some 52)) (v := ?_) (a' := ?_) #[true, false, false, false, false] rfl rfl (take_ofW HT_.out HW_.out (by kernel_rfl)) (fun _ _ _ h => h) (Or.inl ⟨by rfl, ?_⟩) hHeld ?_ ?_
          rotate_left
          · intro w' hS_
            go_simp
            obtain ⟨s1_, s2_⟩ := hS_; have k0_ := (blk_cell s1_ 0).trans (show _ = some (Value.int .i64 v0) from rfl); have k1_ := (blk_cell s1_ 1).trans (show _ = some (Value.int .i64 v2) from rfl); have k2_ := (blk_cell s1_ 2).trans (show _ = some (Value.int .i64 v1) from rfl); have k3_ := (blk_cell s1_ 3).trans (show _ = some (Value.int .i64 v3) from rfl); have k4_ := (blk_cell s1_ 4).trans (show _ = some (Value.int .i64 v4) from rfl); have k5_ := (blk_cell s1_ 5).trans (show _ = some (Value.int .i64 v5) from rfl); go_simp; with_reducible rfl
          rotate_left
          · simp only [Act.put, List.setIfInBounds_toArray, List.set_cons_zero, List.set_cons_succ, i64_w, i32_w]
            rfl
          refine take_ (i := 1) (N := (some 53)) (v := ?_) (a' := ?_) #[true, true, false, false, false] rfl rfl (take_ofW HT_.out HW_.out (by kernel_rfl)) (fun _ _ _ h => h) (Or.inl ⟨by rfl, ?_⟩) hHeld ?_ ?_
          rotate_left
          · intro w' hS_
            go_simp
            obtain ⟨s1_, s2_⟩ := hS_; have k6_ := (blk_cell s2_ 0).trans (show _ = some (Value.int .i64 v6) from rfl); go_simp; with_reducible rfl
          rotate_left
          · simp only [Act.put, List.setIfInBounds_toArray, List.set_cons_zero, List.set_cons_succ, i64_w, i32_w]
            rfl
          refine one_ (i := 2) (N := none) #[true, true, true, false, false] rfl rfl (one_of HT_.out (by kernel_rfl)) (by decide) (fun K hK => ?_)
          go_simp
          refine hK.out _ _ ⟨HS9a.out, HS9b.out⟩ (fun hHeld => ?_)
          clear hK K
          refine pure_ (i := 3) (N := (some 5)) (v := ?_) (a' := ?_) #[true, true, true, true, false] rfl rfl (any_of HT_.out (by kernel_rfl)) (fun _ _ _ h => h) (Or.inl ⟨by rfl, ?_⟩) ?_ ?_
          rotate_left
          · intro w'
            go_simp
            with_reducible rfl
          rotate_left
          · simp only [Act.put, List.setIfInBounds_toArray, List.set_cons_zero, List.set_cons_succ, i64_w, i32_w]
            rfl
          refine pure_ (i := 4) (N := (some 6)) (v := ?_) (a' := ?_) #[true, true, true, true, true] rfl rfl (any_of HT_.out (by kernel_rfl)) (fun _ _ _ h => h) (Or.inl ⟨by rfl, ?_⟩) ?_ ?_
          rotate_left
          · intro w'
            go_simp
            with_reducible rfl
          rotate_left
          · simp only [Act.put, List.setIfInBounds_toArray, List.set_cons_zero, List.set_cons_succ, i64_w, i32_w]
            rfl
          refine done_ (done_of HT_.out (by kernel_rfl)) ?_
          refine strict_normal ?_
          have hgo9 := blk_drew (st6_blk ho8 (.int .i64 v0) (.int .i64 v2) (.int .i64 v1) (.int .i64 v3) (.int .i64 v4) (.int .i64 v5))
          have hB9 := below_drew (st6_below hB8 hob (.int .i64 v0) (.int .i64 v2) (.int .i64 v1) (.int .i64 v3) (.int .i64 v4) (.int .i64 v5))
          have hD9 := blk_drew (((st6_keep w8 go (.int .i64 v0) (.int .i64 v2) (.int .i64 v1) (.int .i64 v3) (.int .i64 v4) (.int .i64 v5)).2 D (blk_lt hD8) hDo (by simp)).trans hD8)
          unfold st6 at hgo9 hB9 hD9
          have hGO9 := Aside0.mk hgo9
          have hBB9 := Aside0.mk hB9
          have hDD9 := Aside0.mk hD9
          clear hgo9 hB9 hD9
          go_wp2_with fail
          generalize World.drew _ = w9 at hGO9 hBB9 hDD9 ⊢
          refine leavesM (B := w.heap.size) [D] _ ((Marked.nil _ _).cons hDl2 hDD9.out (by simp)) ?_
          intro W' ⟨hs, hb⟩
          exact ⟨_, results_ctt rfl _ W' go 23 _ (0, 0) _ rfl (hs _ _ hGO9.out rfl) hu rfl (by kernel_rfl), rfl, hBB9.out.trans hb⟩
        · go_wp2_with (go_at_call 15; refine (header_Right.calls _ _ _ _ _ _ _ _ _ hHT).mono ?_; rintro e w8 ⟨rfl, hb8⟩; have ho8 := blk_below ho6 hb8; have hh8 := blk_below hh6 hb8; have hp8 := blk_below hp6 hb8; have hD8 := blk_below hD6 hb8; have hB8 := below_step hB7 hb8; clear z0 z1 z2 z3 z4 z5 fz0 fz1 fz2 fz3 fz4 fz5 k0 k1 k2 k3 k4 k5 k6; have z0 : w8.cell? ⟨go, 0, none⟩ = some (.int .i64 0) := (blk_cell ho8 0).trans rfl; have z1 : w8.cell? ⟨go, 1, none⟩ = some (.int .i64 0) := (blk_cell ho8 1).trans rfl; have z2 : w8.cell? ⟨go, 2, none⟩ = some (.int .i64 0) := (blk_cell ho8 2).trans rfl; have z3 : w8.cell? ⟨go, 3, none⟩ = some (.int .i64 0) := (blk_cell ho8 3).trans rfl; have z4 : w8.cell? ⟨go, 4, none⟩ = some (.int .i64 0) := (blk_cell ho8 4).trans rfl; have z5 : w8.cell? ⟨go, 5, none⟩ = some (.int .i64 0) := (blk_cell ho8 5).trans rfl; have fz0 := blk_frozen ho8 0; have fz1 := blk_frozen ho8 1; have fz2 := blk_frozen ho8 2; have fz3 := blk_frozen ho8 3; have fz4 := blk_frozen ho8 4; have fz5 := blk_frozen ho8 5)
          have hgo9 := st6_blk ho8 (.int .i64 0) (.int .i64 0) (.int .i64 0) (.int .i64 0) (.int .i64 0) (.int .i64 0)
          have hB9 := st6_below hB8 hob (.int .i64 0) (.int .i64 0) (.int .i64 0) (.int .i64 0) (.int .i64 0) (.int .i64 0)
          have hD9 := ((st6_keep w8 go (.int .i64 0) (.int .i64 0) (.int .i64 0) (.int .i64 0) (.int .i64 0) (.int .i64 0)).2 D (blk_lt hD8) hDo (by simp)).trans hD8
          refine leavesM (B := w.heap.size) [D] _ ((Marked.nil _ _).cons hDl2 hD9 (by simp)) ?_
          intro W' ⟨hs, hb⟩
          exact ⟨_, results_ctt rfl _ W' go 23 _ (0, 0) _ rfl (hs _ _ hgo9 rfl) hu rfl (by kernel_rfl), rfl, hB9.trans hb⟩
    case stop =>
      rintro D c' pre W5 hD _ h _
      exact h.elim
set_option maxHeartbeats 2000000 in
set_option maxRecDepth 100000 in
theorem hg_nil (s : ByteArray) (w : World) :
    Calls Try.prog 18 #[.pointer none, .string s] w fun e w' => e = .returned (.tuple #[.agg #[.int .i64 0, .int .i64 0, .int .i64 0, .int .i64 0, .int .i64 0, .int .i64 0], .int .i64 0, .int .i64 1]) ∧ Below w.heap.size w w' := by
  have hu := Try.underlying23
  refine calls_marks Try.func18 rfl ?_
  simp only [Try.ntmps18, List.size_toArray, List.length_cons, List.length_nil, Nat.reduceAdd, Nat.reduceSub, Array.replicate_succ, Array.replicate_zero, List.push_toArray, List.append_toArray, List.nil_append, List.cons_append]
  have hgo := blk_new w (.cells #[.int .i64 0, .int .i64 0, .int .i64 0, .int .i64 0, .int .i64 0, .int .i64 0] 23)
  have z0 : (w.alloc (.cells #[.int .i64 0, .int .i64 0, .int .i64 0, .int .i64 0, .int .i64 0, .int .i64 0] 23)).cell? ⟨w.heap.size, 0, none⟩ = some (.int .i64 0) := (blk_cell hgo 0).trans rfl
  have fz0 := blk_frozen hgo 0
  have z1 : (w.alloc (.cells #[.int .i64 0, .int .i64 0, .int .i64 0, .int .i64 0, .int .i64 0, .int .i64 0] 23)).cell? ⟨w.heap.size, 1, none⟩ = some (.int .i64 0) := (blk_cell hgo 1).trans rfl
  have fz1 := blk_frozen hgo 1
  have z2 : (w.alloc (.cells #[.int .i64 0, .int .i64 0, .int .i64 0, .int .i64 0, .int .i64 0, .int .i64 0] 23)).cell? ⟨w.heap.size, 2, none⟩ = some (.int .i64 0) := (blk_cell hgo 2).trans rfl
  have fz2 := blk_frozen hgo 2
  have z3 : (w.alloc (.cells #[.int .i64 0, .int .i64 0, .int .i64 0, .int .i64 0, .int .i64 0, .int .i64 0] 23)).cell? ⟨w.heap.size, 3, none⟩ = some (.int .i64 0) := (blk_cell hgo 3).trans rfl
  have fz3 := blk_frozen hgo 3
  have z4 : (w.alloc (.cells #[.int .i64 0, .int .i64 0, .int .i64 0, .int .i64 0, .int .i64 0, .int .i64 0] 23)).cell? ⟨w.heap.size, 4, none⟩ = some (.int .i64 0) := (blk_cell hgo 4).trans rfl
  have fz4 := blk_frozen hgo 4
  have z5 : (w.alloc (.cells #[.int .i64 0, .int .i64 0, .int .i64 0, .int .i64 0, .int .i64 0, .int .i64 0] 23)).cell? ⟨w.heap.size, 5, none⟩ = some (.int .i64 0) := (blk_cell hgo 5).trans rfl
  have fz5 := blk_frozen hgo 5
  have hgo9 := st6_blk hgo (.int .i64 0) (.int .i64 0) (.int .i64 0) (.int .i64 0) (.int .i64 0) (.int .i64 0)
  have hB9 := st6_below (w := w) (below_alloc (Below.refl w.heap.size w) (.cells #[.int .i64 0, .int .i64 0, .int .i64 0, .int .i64 0, .int .i64 0, .int .i64 0] 23)) (Nat.le_refl _) (.int .i64 0) (.int .i64 0) (.int .i64 0) (.int .i64 0) (.int .i64 0) (.int .i64 0)
  have HGO9 := Aside0.mk hgo9
  have HB9 := Aside0.mk hB9
  clear hgo9 hB9
  generalize hW1 : w.alloc (.cells #[.int .i64 0, .int .i64 0, .int .i64 0, .int .i64 0, .int .i64 0, .int .i64 0] 23) = W1 at HGO9 HB9 z0 z1 z2 z3 z4 z5 fz0 fz1 fz2 fz3 fz4 fz5
  go_upto_region 1 with (fail)
  clear hgo hW1
  go_wp2_with fail
  refine leavesM (B := w.heap.size) [] _ (Marked.nil _ _) ?_
  intro W' ⟨hs, hb⟩
  exact ⟨_, results_ctt rfl _ W' w.heap.size 23 _ (0, 0) _ rfl (hs _ _ HGO9.out rfl) hu rfl (by kernel_rfl), rfl, HB9.out.trans hb⟩
set_option maxHeartbeats 2000000 in
set_option maxRecDepth 100000 in
theorem hg_short (a : Addr) (s : ByteArray) (w : World) (d3 : decide ((s.size : Int) < 25) = true) :
    Calls Try.prog 18 #[.pointer (some a), .string s] w fun e w' => e = .returned (.tuple #[.agg #[.int .i64 0, .int .i64 0, .int .i64 0, .int .i64 0, .int .i64 0, .int .i64 0], .int .i64 0, .int .i64 2]) ∧ Below w.heap.size w w' := by
  have hu := Try.underlying23
  refine calls_marks Try.func18 rfl ?_
  simp only [Try.ntmps18, List.size_toArray, List.length_cons, List.length_nil, Nat.reduceAdd, Nat.reduceSub, Array.replicate_succ, Array.replicate_zero, List.push_toArray, List.append_toArray, List.nil_append, List.cons_append]
  have hgo := blk_new w (.cells #[.int .i64 0, .int .i64 0, .int .i64 0, .int .i64 0, .int .i64 0, .int .i64 0] 23)
  have z0 : (w.alloc (.cells #[.int .i64 0, .int .i64 0, .int .i64 0, .int .i64 0, .int .i64 0, .int .i64 0] 23)).cell? ⟨w.heap.size, 0, none⟩ = some (.int .i64 0) := (blk_cell hgo 0).trans rfl
  have fz0 := blk_frozen hgo 0
  have z1 : (w.alloc (.cells #[.int .i64 0, .int .i64 0, .int .i64 0, .int .i64 0, .int .i64 0, .int .i64 0] 23)).cell? ⟨w.heap.size, 1, none⟩ = some (.int .i64 0) := (blk_cell hgo 1).trans rfl
  have fz1 := blk_frozen hgo 1
  have z2 : (w.alloc (.cells #[.int .i64 0, .int .i64 0, .int .i64 0, .int .i64 0, .int .i64 0, .int .i64 0] 23)).cell? ⟨w.heap.size, 2, none⟩ = some (.int .i64 0) := (blk_cell hgo 2).trans rfl
  have fz2 := blk_frozen hgo 2
  have z3 : (w.alloc (.cells #[.int .i64 0, .int .i64 0, .int .i64 0, .int .i64 0, .int .i64 0, .int .i64 0] 23)).cell? ⟨w.heap.size, 3, none⟩ = some (.int .i64 0) := (blk_cell hgo 3).trans rfl
  have fz3 := blk_frozen hgo 3
  have z4 : (w.alloc (.cells #[.int .i64 0, .int .i64 0, .int .i64 0, .int .i64 0, .int .i64 0, .int .i64 0] 23)).cell? ⟨w.heap.size, 4, none⟩ = some (.int .i64 0) := (blk_cell hgo 4).trans rfl
  have fz4 := blk_frozen hgo 4
  have z5 : (w.alloc (.cells #[.int .i64 0, .int .i64 0, .int .i64 0, .int .i64 0, .int .i64 0, .int .i64 0] 23)).cell? ⟨w.heap.size, 5, none⟩ = some (.int .i64 0) := (blk_cell hgo 5).trans rfl
  have fz5 := blk_frozen hgo 5
  have hgo9 := st6_blk hgo (.int .i64 0) (.int .i64 0) (.int .i64 0) (.int .i64 0) (.int .i64 0) (.int .i64 0)
  have hB9 := st6_below (w := w) (below_alloc (Below.refl w.heap.size w) (.cells #[.int .i64 0, .int .i64 0, .int .i64 0, .int .i64 0, .int .i64 0, .int .i64 0] 23)) (Nat.le_refl _) (.int .i64 0) (.int .i64 0) (.int .i64 0) (.int .i64 0) (.int .i64 0) (.int .i64 0)
  have HGO9 := Aside0.mk hgo9
  have HB9 := Aside0.mk hB9
  clear hgo9 hB9
  generalize hW1 : w.alloc (.cells #[.int .i64 0, .int .i64 0, .int .i64 0, .int .i64 0, .int .i64 0, .int .i64 0] 23) = W1 at HGO9 HB9 z0 z1 z2 z3 z4 z5 fz0 fz1 fz2 fz3 fz4 fz5
  go_upto_region 1 with (fail)
  clear hgo hW1
  go_wp2_with fail
  refine leavesM (B := w.heap.size) [] _ (Marked.nil _ _) ?_
  intro W' ⟨hs, hb⟩
  exact ⟨_, results_ctt rfl _ W' w.heap.size 23 _ (0, 0) _ rfl (hs _ _ HGO9.out rfl) hu rfl (by kernel_rfl), rfl, HB9.out.trans hb⟩
theorem header_Get.calls (A0 : Option Addr) (c0 : Nat) (l0 : List Int) (a1 : ByteArray) (r1 r2 r3 r4 r5 r6 r7 r8 : Int) (w : World) (hr0 : Kd.C (Kd.int .u32) w A0 l0.length l0) (hc0 : l0.length ≤ c0) (h : header_Get.f l0 a1 = some (r1, r2, r3, r4, r5, r6, r7, r8)) :
    Calls Try.prog 18 #[.pointer A0, .string a1] w fun e w' => e = .returned (.tuple #[.agg #[.int .i64 r1, .int .i64 r2, .int .i64 r3, .int .i64 r4, .int .i64 r5, .int .i64 r6], .int .i64 r7, .int .i64 r8]) ∧ Below w.heap.size w w' := by
  unfold header_Get.f at h
  by_cases cc : l0 = CrcX.crcTab ∧ a1.size ≤ 100000
  · rw [if_pos cc] at h
    obtain ⟨rfl, hs⟩ := cc
    obtain ⟨a, rfl, hTab⟩ := CrcX.tab_at hr0
    by_cases c1 : (a1.size : Int) < 25
    · rw [if_pos c1] at h
      have e := Option.some.inj h
      unfold hnone at e
      simp only [Prod.mk.injEq] at e
      obtain ⟨rfl, rfl, rfl, rfl, rfl, rfl, rfl, rfl⟩ := e
      exact hg_short a a1 w (decide_eq_true c1)
    · rw [if_neg c1] at h
      obtain ⟨⟨x1, x2, x3, x4⟩, hX, h⟩ := Option.bind_eq_some_iff.1 h
      obtain rfl : x3 = 25 := text_size hX
      simp only at h
      obtain ⟨y1, y2, y4, hY⟩ := num_tot (gall x2 x4 (List.finRange 7)).1 25 (gall x2 x4 (List.finRange 7)).2.1 4
      rw [hY, Option.bind_some] at h
      obtain ⟨t, hT⟩ := right_tot ((gall x2 x4 (List.finRange 7)).2.2 0) ((gall x2 x4 (List.finRange 7)).2.2 2) ((gall x2 x4 (List.finRange 7)).2.2 1) ((gall x2 x4 (List.finRange 7)).2.2 3) ((gall x2 x4 (List.finRange 7)).2.2 4) ((gall x2 x4 (List.finRange 7)).2.2 5) ((gall x2 x4 (List.finRange 7)).2.2 6)
      rw [hT, Option.bind_some] at h
      refine hg_run a a1 (r1, r2, r3, r4, r5, r6, r7, r8) w hTab (by omega) hs x1 x2 x4 hX _ rfl y1 y2 y4 hY t hT ?_
      by_cases c2 : x1.toList = ([83, 80, 76, 49] : List UInt8)
      · rw [if_pos c2] at h
        refine .inr ⟨c2, ?_⟩
        by_cases c3 : y1 = ((CrcLem.sumN 0 (a1.extract 0 21).data.toList : Nat) : Int)
        · rw [if_pos c3] at h
          refine .inr ⟨c3, ?_⟩
          cases t with
          | true => rw [if_pos rfl] at h; exact .inl ⟨rfl, (Option.some.inj h).symm⟩
          | false => rw [if_neg (by decide)] at h; exact .inr ⟨rfl, (Option.some.inj h).symm⟩
        · rw [if_neg c3] at h
          exact .inl ⟨c3, (Option.some.inj h).symm⟩
      · rw [if_neg c2] at h
        exact .inl ⟨c2, (Option.some.inj h).symm⟩
  · rw [if_neg cc] at h; cases h
def header_Get_nil.f (_ : Unit) (s : ByteArray) : Option Head8 := some (0, 0, 0, 0, 0, 0, 0, 1)
theorem header_Get_nil.calls (a0 : Unit) (a1 : ByteArray) (r1 r2 r3 r4 r5 r6 r7 r8 : Int) (w : World) (h : header_Get_nil.f a0 a1 = some (r1, r2, r3, r4, r5, r6, r7, r8)) :
    Calls Try.prog 18 #[.pointer none, .string a1] w fun e w' => e = .returned (.tuple #[.agg #[.int .i64 r1, .int .i64 r2, .int .i64 r3, .int .i64 r4, .int .i64 r5, .int .i64 r6], .int .i64 r7, .int .i64 r8]) ∧ Below w.heap.size w w' := by
  simp only [header_Get_nil.f, Option.some.injEq, Prod.mk.injEq] at h
  obtain ⟨rfl, rfl, rfl, rfl, rfl, rfl, rfl, rfl⟩ := h
  exact hg_nil a1 w
end

/-! ### splicerlaw29_awake: function 17 -/
def splicerlaw29_awake.f  : Option (Bool) := (crc_Make.f).bind fun t131 => ((header_Put.f t131 1 1 0 0 0 0 0).bind fun bt134 => ((crc_Make.f).bind fun t136 => ((header_Get.f t136 (⟨#[83, 80, 76, 49]⟩ : ByteArray)).bind fun bt139 => (if bt134.2 = 0 then (if (bt134.1.size : Int) = 25 then (if 0 ≤ 9 then (if 9 ≤ (bt134.1.size : Int) then (if (bt134.1.extract 0 9).toList = ([83, 80, 76, 49, 1, 0, 0, 0, 1] : List UInt8) then (some (bt139.2.2.2.2.2.2.2 == 2)) else (some false)) else (none)) else (none)) else (some false)) else (some false)))))
set_option maxHeartbeats 8000000 in
set_option maxRecDepth 100000 in
theorem splicerlaw29_awake.calls  (r : Bool) (w : World) (h : splicerlaw29_awake.f  = some r) :
    Calls Try.prog 17 #[] w fun e w' => e = .returned (.bool r) ∧ Below w.heap.size w w' := by
  have hu23 := Try.underlying23
  have HB := Aside0.mk (Below.refl w.heap.size w)
  have H : ((crc_Make.f).bind fun t131 => ((header_Put.f t131 1 1 0 0 0 0 0).bind fun bt134 => ((crc_Make.f).bind fun t136 => ((header_Get.f t136 (⟨#[83, 80, 76, 49]⟩ : ByteArray)).bind fun bt139 => (if bt134.2 = 0 then (if (bt134.1.size : Int) = 25 then (if 0 ≤ 9 then (if 9 ≤ (bt134.1.size : Int) then (if (bt134.1.extract 0 9).toList = ([83, 80, 76, 49, 1, 0, 0, 0, 1] : List UInt8) then (some (bt139.2.2.2.2.2.2.2 == 2)) else (some false)) else (none)) else (none)) else (some false)) else (some false)))))) = some r := h
  clear h
  replace H := Option.bind_eq_some_iff.mp H
  obtain ⟨t131, A10, H⟩ := H
  replace H : ((header_Put.f t131 1 1 0 0 0 0 0).bind fun bt134 => ((crc_Make.f).bind fun t136 => ((header_Get.f t136 (⟨#[83, 80, 76, 49]⟩ : ByteArray)).bind fun bt139 => (if bt134.2 = 0 then (if (bt134.1.size : Int) = 25 then (if 0 ≤ 9 then (if 9 ≤ (bt134.1.size : Int) then (if (bt134.1.extract 0 9).toList = ([83, 80, 76, 49, 1, 0, 0, 0, 1] : List UInt8) then (some (bt139.2.2.2.2.2.2.2 == 2)) else (some false)) else (none)) else (none)) else (some false)) else (some false))))) = some r := H
  have A1 := Aside0.mk A10
  clear A10
  replace H := Option.bind_eq_some_iff.mp H
  obtain ⟨⟨t134, t135⟩, A20, H⟩ := H
  replace H : ((crc_Make.f).bind fun t136 => ((header_Get.f t136 (⟨#[83, 80, 76, 49]⟩ : ByteArray)).bind fun bt139 => (if t135 = 0 then (if (t134.size : Int) = 25 then (if 0 ≤ 9 then (if 9 ≤ (t134.size : Int) then (if (t134.extract 0 9).toList = ([83, 80, 76, 49, 1, 0, 0, 0, 1] : List UInt8) then (some (bt139.2.2.2.2.2.2.2 == 2)) else (some false)) else (none)) else (none)) else (some false)) else (some false)))) = some r := H
  have A2 := Aside0.mk A20
  clear A20
  replace H := Option.bind_eq_some_iff.mp H
  obtain ⟨t136, A30, H⟩ := H
  replace H : ((header_Get.f t136 (⟨#[83, 80, 76, 49]⟩ : ByteArray)).bind fun bt139 => (if t135 = 0 then (if (t134.size : Int) = 25 then (if 0 ≤ 9 then (if 9 ≤ (t134.size : Int) then (if (t134.extract 0 9).toList = ([83, 80, 76, 49, 1, 0, 0, 0, 1] : List UInt8) then (some (bt139.2.2.2.2.2.2.2 == 2)) else (some false)) else (none)) else (none)) else (some false)) else (some false))) = some r := H
  have A3 := Aside0.mk A30
  clear A30
  replace H := Option.bind_eq_some_iff.mp H
  obtain ⟨⟨t139, t140, t141, t142, t143, t144, t145, t146⟩, A40, H⟩ := H
  replace H : (if t135 = 0 then (if (t134.size : Int) = 25 then (if 0 ≤ 9 then (if 9 ≤ (t134.size : Int) then (if (t134.extract 0 9).toList = ([83, 80, 76, 49, 1, 0, 0, 0, 1] : List UInt8) then (some (t146 == 2)) else (some false)) else (none)) else (none)) else (some false)) else (some false)) = some r := H
  have A4 := Aside0.mk A40
  clear A40
  by_cases c5 : t135 = 0
  · rw [if_pos c5] at H
    have c5b0 : (t135 == 0) = true := beq_iff_eq.mpr c5
    have c5b1 : (t135 != 0) = false := bne_eq_false_iff_eq.mpr c5
    clear c5
    by_cases c6 : (t134.size : Int) = 25
    · rw [if_pos c6] at H
      have c6b0 : ((t134.size : Int) == 25) = true := beq_iff_eq.mpr c6
      have c6b1 : ((t134.size : Int) != 25) = false := bne_eq_false_iff_eq.mpr c6
      clear c6
      by_cases c7 : 0 ≤ 9
      · rw [if_pos c7] at H
        have c7b0 := eq_true c7
        have c7b1 : decide (0 ≤ 9) = true := decide_eq_true c7
        clear c7
        by_cases c8 : 9 ≤ (t134.size : Int)
        · rw [if_pos c8] at H
          have c8b0 := eq_true c8
          have c8b1 : decide (9 ≤ (t134.size : Int)) = true := decide_eq_true c8
          clear c8
          by_cases c9 : (t134.extract 0 9).toList = ([83, 80, 76, 49, 1, 0, 0, 0, 1] : List UInt8)
          · rw [if_pos c9] at H
            have c9b0 : ((t134.extract 0 9).toList == ([83, 80, 76, 49, 1, 0, 0, 0, 1] : List UInt8)) = true := beq_iff_eq.mpr c9
            have c9b1 : ((t134.extract 0 9).toList != ([83, 80, 76, 49, 1, 0, 0, 0, 1] : List UInt8)) = false := bne_eq_false_iff_eq.mpr c9
            clear c9
            obtain rfl := Option.some.inj H
            go_enter Try.func17, Try.ntmps17
            go_wp2_with (first | ((with_reducible refine gate_callee (f := 13) rfl ?_); refine goesL_ (some 7) rfl rfl Try.func13 (by kernel_rfl) rfl #[] rfl (by (try simp only [List.map_toArray, List.map_cons, List.map_nil]); first | done | rfl | (simp only [List.length_drop, List.length_take]; rfl)) ?_; (with_reducible refine (crc_Make.calls  t131 _ A1.out).mono ?_); rintro e w10 ⟨v132, rfl, ho0, hb⟩; refine ⟨_, rfl, ?_⟩; have n0_ := Aside0.mk (Kd.R_lower ho0 (below_size (by repeat (first | (with_reducible first | exact HB.out | apply below_alloc | apply pw_below_drewN | apply below_drew1) | exact HB.out)))); have n1_ := Aside0.mk (below_step (by repeat (first | (with_reducible first | exact HB.out | apply below_alloc | apply pw_below_drewN | apply below_drew1) | exact HB.out)) hb); clear HB; have HO133 := n0_; have HB := n1_; clear n0_ n1_; (try clear hb); (try clear hb2); (try clear hk); (try clear hi); (try clear ho0); obtain ⟨Ao11, co11, eo11⟩ := Kd.R_slice HO133.out; subst eo11) | ((with_reducible refine gate_callee (f := 12) rfl ?_); refine goesL_ (some 9) rfl rfl Try.func12 (by kernel_rfl) rfl #[.pointer Ao11, .agg #[.int .i64 1, .int .i64 1, .int .i64 0, .int .i64 0, .int .i64 0, .int .i64 0], .int .i64 0] rfl (by (try simp only [List.map_toArray, List.map_cons, List.map_nil]); first | done | rfl | (simp only [List.length_drop, List.length_take]; rfl)) ?_; (with_reducible refine (header_Put.calls _ t131.length t131 1 1 0 0 0 0 0 t134 t135 _ ?side1 ?side2 A2.out).mono ?_); (case side1 => repeat (first | exact (Kd.R_reads' HO133.out).2.2 | (with_reducible refine Kd.C_alloc ?_ _) | (with_reducible refine Kd.C_drewN ?_ _) | (with_reducible refine Kd.C_drew ?_))); (case side2 => exact Nat.le_refl _); rintro e w12 ⟨rfl, hb⟩; refine ⟨_, rfl, ?_⟩; have n0_ := Aside0.mk (Kd.R_below (by (with_reducible repeat (first | apply Kd.R_alloc | apply Kd.R_drewN | apply Kd.R_drew)); exact HO133.out) hb); have n1_ := Aside0.mk (below_step (by repeat (first | (with_reducible first | exact HB.out | apply below_alloc | apply pw_below_drewN | apply below_drew1) | exact HB.out)) hb); clear HO133; clear HB; have HO133 := n0_; have HB := n1_; clear n0_ n1_; (try clear hb); (try clear hb2); (try clear hk); (try clear hi)) | ((with_reducible refine gate_callee (f := 13) rfl ?_); refine goesL_ (some 13) rfl rfl Try.func13 (by kernel_rfl) rfl #[] rfl (by (try simp only [List.map_toArray, List.map_cons, List.map_nil]); first | done | rfl | (simp only [List.length_drop, List.length_take]; rfl)) ?_; (with_reducible refine (crc_Make.calls  t136 _ A3.out).mono ?_); rintro e w13 ⟨v137, rfl, ho0, hb⟩; refine ⟨_, rfl, ?_⟩; have n0_ := Aside0.mk (Kd.R_elder' (by (with_reducible repeat (first | apply Kd.R_alloc | apply Kd.R_drewN | apply Kd.R_drew)); exact HO133.out) (Kd.R_base ho0) hb); have n1_ := Aside0.mk (Kd.R_lower (Kd.R_new' ho0 (Kd.R_lt (by (with_reducible repeat (first | apply Kd.R_alloc | apply Kd.R_drewN | apply Kd.R_drew)); exact HO133.out))) (below_size (by repeat (first | (with_reducible first | exact HB.out | apply below_alloc | apply pw_below_drewN | apply below_drew1) | exact HB.out)))); have n2_ := Aside0.mk (below_step (by repeat (first | (with_reducible first | exact HB.out | apply below_alloc | apply pw_below_drewN | apply below_drew1) | exact HB.out)) hb); clear HO133; clear HB; have HO133 := n0_; have HO138 := n1_; have HB := n2_; clear n0_ n1_ n2_; (try clear hb); (try clear hb2); (try clear hk); (try clear hi); (try clear ho0); obtain ⟨Ao14, co14, eo14⟩ := Kd.R_slice HO138.out; subst eo14) | ((with_reducible refine gate_callee (f := 18) rfl ?_); refine goesL_ (some 14) rfl rfl Try.func18 (by kernel_rfl) rfl #[.pointer Ao14, .string (⟨#[83, 80, 76, 49]⟩ : ByteArray)] rfl (by (try simp only [List.map_toArray, List.map_cons, List.map_nil]); first | done | rfl | (simp only [List.length_drop, List.length_take]; rfl)) ?_; (with_reducible refine (header_Get.calls _ t136.length t136 (⟨#[83, 80, 76, 49]⟩ : ByteArray) t139 t140 t141 t142 t143 t144 t145 t146 _ ?side1 ?side2 A4.out).mono ?_); (case side1 => repeat (first | exact (Kd.R_reads' HO138.out).2.2 | (with_reducible refine Kd.C_alloc ?_ _) | (with_reducible refine Kd.C_drewN ?_ _) | (with_reducible refine Kd.C_drew ?_))); (case side2 => exact Nat.le_refl _); rintro e w15 ⟨rfl, hb⟩; refine ⟨_, rfl, ?_⟩; have n0_ := Aside0.mk (Kd.R_below (by (with_reducible repeat (first | apply Kd.R_alloc | apply Kd.R_drewN | apply Kd.R_drew)); exact HO133.out) hb); have n1_ := Aside0.mk (Kd.R_below (by (with_reducible repeat (first | apply Kd.R_alloc | apply Kd.R_drewN | apply Kd.R_drew)); exact HO138.out) hb); have n2_ := Aside0.mk (below_step (by repeat (first | (with_reducible first | exact HB.out | apply below_alloc | apply pw_below_drewN | apply below_drew1) | exact HB.out)) hb); clear HO133; clear HO138; clear HB; have HO133 := n0_; have HO138 := n1_; have HB := n2_; clear n0_ n1_ n2_; (try clear hb); (try clear hb2); (try clear hk); (try clear hi)) | ((with_reducible refine gate_dst (N := 3) rfl ?_); (try (refine gate_guard (by rfl) ?_; dsimp only)); refine box_event ?hg (N := 3) ?hd (cs := #[.int .i64 0, .int .i64 0, .int .i64 0, .int .i64 0, .int .i64 0, .int .i64 0]) (t := 23) ?hr ?_; (case hd => rfl); (case hg => rfl); (case hr => first | (go_simp; done) | (go_simp; rfl)); intro gb147 hg w16 hbox hb; have n0_ := Aside0.mk (Kd.R_below (by (with_reducible repeat (first | apply Kd.R_alloc | apply Kd.R_drewN | apply Kd.R_drew)); exact HO133.out) hb); have n1_ := Aside0.mk (Kd.R_below (by (with_reducible repeat (first | apply Kd.R_alloc | apply Kd.R_drewN | apply Kd.R_drew)); exact HO138.out) hb); have n2_ := Aside0.mk (below_step (by repeat (first | (with_reducible first | exact HB.out | apply below_alloc | apply pw_below_drewN | apply below_drew1) | exact HB.out)) hb); have n3_ := Aside0.mk (hbox); have n4_ := Aside0.mk ((by rw [hg]; exact (below_size (by repeat (first | (with_reducible first | exact HB.out | apply below_alloc | apply pw_below_drewN | apply below_drew1) | exact HB.out))) : w.heap.size ≤ gb147)); have n5_ := Aside0.mk ((by rw [hg]; exact (below_size (by repeat (first | (with_reducible first | exact HB.out | apply below_alloc | apply pw_below_drewN | apply below_drew1) | exact HB.out))) : w.heap.size ≤ gb147)); clear HO133; clear HO138; clear HB; have HO133 := n0_; have HO138 := n1_; have HB := n2_; have BK147 := n3_; have GW147 := n4_; have GE147 := n5_; clear n0_ n1_ n2_ n3_ n4_ n5_; clear hb hbox hg; have hcz17_0 : w16.cell? ⟨gb147, 0, none⟩ = some (.int .i64 0) := (blk_cell BK147.out 0).trans rfl; have hcz17_1 : w16.cell? ⟨gb147, 1, none⟩ = some (.int .i64 0) := (blk_cell BK147.out 1).trans rfl; have hcz17_2 : w16.cell? ⟨gb147, 2, none⟩ = some (.int .i64 0) := (blk_cell BK147.out 2).trans rfl; have hcz17_3 : w16.cell? ⟨gb147, 3, none⟩ = some (.int .i64 0) := (blk_cell BK147.out 3).trans rfl; have hcz17_4 : w16.cell? ⟨gb147, 4, none⟩ = some (.int .i64 0) := (blk_cell BK147.out 4).trans rfl; have hcz17_5 : w16.cell? ⟨gb147, 5, none⟩ = some (.int .i64 0) := (blk_cell BK147.out 5).trans rfl; have hfz17_0 := blk_frozen BK147.out 0; have hfz17_1 := blk_frozen BK147.out 1; have hfz17_2 := blk_frozen BK147.out 2; have hfz17_3 := blk_frozen BK147.out 3; have hfz17_4 := blk_frozen BK147.out 4; have hfz17_5 := blk_frozen BK147.out 5))
            go_ret
            exact ⟨by first | rfl | (simp [errW_none, errW_some] <;> rfl) | (simp [*, errW_none, errW_some] <;> rfl), by repeat (first | (with_reducible first | exact HB.out | apply below_alloc | apply pw_below_drewN | apply below_drew1 | refine below_set ?_ GE147.out) | exact HB.out)⟩
          · rw [if_neg c9] at H
            have c9b0 : ((t134.extract 0 9).toList == ([83, 80, 76, 49, 1, 0, 0, 0, 1] : List UInt8)) = false := beq_eq_false_iff_ne.mpr c9
            have c9b1 : ((t134.extract 0 9).toList != ([83, 80, 76, 49, 1, 0, 0, 0, 1] : List UInt8)) = true := bne_iff_ne.mpr c9
            obtain rfl := Option.some.inj H
            go_enter Try.func17, Try.ntmps17
            go_wp2_with (first | ((with_reducible refine gate_callee (f := 13) rfl ?_); refine goesL_ (some 7) rfl rfl Try.func13 (by kernel_rfl) rfl #[] rfl (by (try simp only [List.map_toArray, List.map_cons, List.map_nil]); first | done | rfl | (simp only [List.length_drop, List.length_take]; rfl)) ?_; (with_reducible refine (crc_Make.calls  t131 _ A1.out).mono ?_); rintro e w18 ⟨v132, rfl, ho0, hb⟩; refine ⟨_, rfl, ?_⟩; have n0_ := Aside0.mk (Kd.R_lower ho0 (below_size (by repeat (first | (with_reducible first | exact HB.out | apply below_alloc | apply pw_below_drewN | apply below_drew1) | exact HB.out)))); have n1_ := Aside0.mk (below_step (by repeat (first | (with_reducible first | exact HB.out | apply below_alloc | apply pw_below_drewN | apply below_drew1) | exact HB.out)) hb); clear HB; have HO133 := n0_; have HB := n1_; clear n0_ n1_; (try clear hb); (try clear hb2); (try clear hk); (try clear hi); (try clear ho0); obtain ⟨Ao19, co19, eo19⟩ := Kd.R_slice HO133.out; subst eo19) | ((with_reducible refine gate_callee (f := 12) rfl ?_); refine goesL_ (some 9) rfl rfl Try.func12 (by kernel_rfl) rfl #[.pointer Ao19, .agg #[.int .i64 1, .int .i64 1, .int .i64 0, .int .i64 0, .int .i64 0, .int .i64 0], .int .i64 0] rfl (by (try simp only [List.map_toArray, List.map_cons, List.map_nil]); first | done | rfl | (simp only [List.length_drop, List.length_take]; rfl)) ?_; (with_reducible refine (header_Put.calls _ t131.length t131 1 1 0 0 0 0 0 t134 t135 _ ?side1 ?side2 A2.out).mono ?_); (case side1 => repeat (first | exact (Kd.R_reads' HO133.out).2.2 | (with_reducible refine Kd.C_alloc ?_ _) | (with_reducible refine Kd.C_drewN ?_ _) | (with_reducible refine Kd.C_drew ?_))); (case side2 => exact Nat.le_refl _); rintro e w20 ⟨rfl, hb⟩; refine ⟨_, rfl, ?_⟩; have n0_ := Aside0.mk (Kd.R_below (by (with_reducible repeat (first | apply Kd.R_alloc | apply Kd.R_drewN | apply Kd.R_drew)); exact HO133.out) hb); have n1_ := Aside0.mk (below_step (by repeat (first | (with_reducible first | exact HB.out | apply below_alloc | apply pw_below_drewN | apply below_drew1) | exact HB.out)) hb); clear HO133; clear HB; have HO133 := n0_; have HB := n1_; clear n0_ n1_; (try clear hb); (try clear hb2); (try clear hk); (try clear hi)) | ((with_reducible refine gate_callee (f := 13) rfl ?_); refine goesL_ (some 13) rfl rfl Try.func13 (by kernel_rfl) rfl #[] rfl (by (try simp only [List.map_toArray, List.map_cons, List.map_nil]); first | done | rfl | (simp only [List.length_drop, List.length_take]; rfl)) ?_; (with_reducible refine (crc_Make.calls  t136 _ A3.out).mono ?_); rintro e w21 ⟨v137, rfl, ho0, hb⟩; refine ⟨_, rfl, ?_⟩; have n0_ := Aside0.mk (Kd.R_elder' (by (with_reducible repeat (first | apply Kd.R_alloc | apply Kd.R_drewN | apply Kd.R_drew)); exact HO133.out) (Kd.R_base ho0) hb); have n1_ := Aside0.mk (Kd.R_lower (Kd.R_new' ho0 (Kd.R_lt (by (with_reducible repeat (first | apply Kd.R_alloc | apply Kd.R_drewN | apply Kd.R_drew)); exact HO133.out))) (below_size (by repeat (first | (with_reducible first | exact HB.out | apply below_alloc | apply pw_below_drewN | apply below_drew1) | exact HB.out)))); have n2_ := Aside0.mk (below_step (by repeat (first | (with_reducible first | exact HB.out | apply below_alloc | apply pw_below_drewN | apply below_drew1) | exact HB.out)) hb); clear HO133; clear HB; have HO133 := n0_; have HO138 := n1_; have HB := n2_; clear n0_ n1_ n2_; (try clear hb); (try clear hb2); (try clear hk); (try clear hi); (try clear ho0); obtain ⟨Ao22, co22, eo22⟩ := Kd.R_slice HO138.out; subst eo22) | ((with_reducible refine gate_callee (f := 18) rfl ?_); refine goesL_ (some 14) rfl rfl Try.func18 (by kernel_rfl) rfl #[.pointer Ao22, .string (⟨#[83, 80, 76, 49]⟩ : ByteArray)] rfl (by (try simp only [List.map_toArray, List.map_cons, List.map_nil]); first | done | rfl | (simp only [List.length_drop, List.length_take]; rfl)) ?_; (with_reducible refine (header_Get.calls _ t136.length t136 (⟨#[83, 80, 76, 49]⟩ : ByteArray) t139 t140 t141 t142 t143 t144 t145 t146 _ ?side1 ?side2 A4.out).mono ?_); (case side1 => repeat (first | exact (Kd.R_reads' HO138.out).2.2 | (with_reducible refine Kd.C_alloc ?_ _) | (with_reducible refine Kd.C_drewN ?_ _) | (with_reducible refine Kd.C_drew ?_))); (case side2 => exact Nat.le_refl _); rintro e w23 ⟨rfl, hb⟩; refine ⟨_, rfl, ?_⟩; have n0_ := Aside0.mk (Kd.R_below (by (with_reducible repeat (first | apply Kd.R_alloc | apply Kd.R_drewN | apply Kd.R_drew)); exact HO133.out) hb); have n1_ := Aside0.mk (Kd.R_below (by (with_reducible repeat (first | apply Kd.R_alloc | apply Kd.R_drewN | apply Kd.R_drew)); exact HO138.out) hb); have n2_ := Aside0.mk (below_step (by repeat (first | (with_reducible first | exact HB.out | apply below_alloc | apply pw_below_drewN | apply below_drew1) | exact HB.out)) hb); clear HO133; clear HO138; clear HB; have HO133 := n0_; have HO138 := n1_; have HB := n2_; clear n0_ n1_ n2_; (try clear hb); (try clear hb2); (try clear hk); (try clear hi)) | ((with_reducible refine gate_dst (N := 3) rfl ?_); (try (refine gate_guard (by rfl) ?_; dsimp only)); refine box_event ?hg (N := 3) ?hd (cs := #[.int .i64 0, .int .i64 0, .int .i64 0, .int .i64 0, .int .i64 0, .int .i64 0]) (t := 23) ?hr ?_; (case hd => rfl); (case hg => rfl); (case hr => first | (go_simp; done) | (go_simp; rfl)); intro gb147 hg w24 hbox hb; have n0_ := Aside0.mk (Kd.R_below (by (with_reducible repeat (first | apply Kd.R_alloc | apply Kd.R_drewN | apply Kd.R_drew)); exact HO133.out) hb); have n1_ := Aside0.mk (Kd.R_below (by (with_reducible repeat (first | apply Kd.R_alloc | apply Kd.R_drewN | apply Kd.R_drew)); exact HO138.out) hb); have n2_ := Aside0.mk (below_step (by repeat (first | (with_reducible first | exact HB.out | apply below_alloc | apply pw_below_drewN | apply below_drew1) | exact HB.out)) hb); have n3_ := Aside0.mk (hbox); have n4_ := Aside0.mk ((by rw [hg]; exact (below_size (by repeat (first | (with_reducible first | exact HB.out | apply below_alloc | apply pw_below_drewN | apply below_drew1) | exact HB.out))) : w.heap.size ≤ gb147)); have n5_ := Aside0.mk ((by rw [hg]; exact (below_size (by repeat (first | (with_reducible first | exact HB.out | apply below_alloc | apply pw_below_drewN | apply below_drew1) | exact HB.out))) : w.heap.size ≤ gb147)); clear HO133; clear HO138; clear HB; have HO133 := n0_; have HO138 := n1_; have HB := n2_; have BK147 := n3_; have GW147 := n4_; have GE147 := n5_; clear n0_ n1_ n2_ n3_ n4_ n5_; clear hb hbox hg; have hcz25_0 : w24.cell? ⟨gb147, 0, none⟩ = some (.int .i64 0) := (blk_cell BK147.out 0).trans rfl; have hcz25_1 : w24.cell? ⟨gb147, 1, none⟩ = some (.int .i64 0) := (blk_cell BK147.out 1).trans rfl; have hcz25_2 : w24.cell? ⟨gb147, 2, none⟩ = some (.int .i64 0) := (blk_cell BK147.out 2).trans rfl; have hcz25_3 : w24.cell? ⟨gb147, 3, none⟩ = some (.int .i64 0) := (blk_cell BK147.out 3).trans rfl; have hcz25_4 : w24.cell? ⟨gb147, 4, none⟩ = some (.int .i64 0) := (blk_cell BK147.out 4).trans rfl; have hcz25_5 : w24.cell? ⟨gb147, 5, none⟩ = some (.int .i64 0) := (blk_cell BK147.out 5).trans rfl; have hfz25_0 := blk_frozen BK147.out 0; have hfz25_1 := blk_frozen BK147.out 1; have hfz25_2 := blk_frozen BK147.out 2; have hfz25_3 := blk_frozen BK147.out 3; have hfz25_4 := blk_frozen BK147.out 4; have hfz25_5 := blk_frozen BK147.out 5))
            go_ret
            exact ⟨by first | rfl | (simp [errW_none, errW_some] <;> rfl) | (simp [*, errW_none, errW_some] <;> rfl), by repeat (first | (with_reducible first | exact HB.out | apply below_alloc | apply pw_below_drewN | apply below_drew1 | refine below_set ?_ GE147.out) | exact HB.out)⟩
        · rw [if_neg c8] at H
          exact absurd H (by simp)
      · rw [if_neg c7] at H
        exact absurd H (by simp)
    · rw [if_neg c6] at H
      have c6b0 : ((t134.size : Int) == 25) = false := beq_eq_false_iff_ne.mpr c6
      have c6b1 : ((t134.size : Int) != 25) = true := bne_iff_ne.mpr c6
      obtain rfl := Option.some.inj H
      go_enter Try.func17, Try.ntmps17
      go_wp2_with (first | ((with_reducible refine gate_callee (f := 13) rfl ?_); refine goesL_ (some 7) rfl rfl Try.func13 (by kernel_rfl) rfl #[] rfl (by (try simp only [List.map_toArray, List.map_cons, List.map_nil]); first | done | rfl | (simp only [List.length_drop, List.length_take]; rfl)) ?_; (with_reducible refine (crc_Make.calls  t131 _ A1.out).mono ?_); rintro e w26 ⟨v132, rfl, ho0, hb⟩; refine ⟨_, rfl, ?_⟩; have n0_ := Aside0.mk (Kd.R_lower ho0 (below_size (by repeat (first | (with_reducible first | exact HB.out | apply below_alloc | apply pw_below_drewN | apply below_drew1) | exact HB.out)))); have n1_ := Aside0.mk (below_step (by repeat (first | (with_reducible first | exact HB.out | apply below_alloc | apply pw_below_drewN | apply below_drew1) | exact HB.out)) hb); clear HB; have HO133 := n0_; have HB := n1_; clear n0_ n1_; (try clear hb); (try clear hb2); (try clear hk); (try clear hi); (try clear ho0); obtain ⟨Ao27, co27, eo27⟩ := Kd.R_slice HO133.out; subst eo27) | ((with_reducible refine gate_callee (f := 12) rfl ?_); refine goesL_ (some 9) rfl rfl Try.func12 (by kernel_rfl) rfl #[.pointer Ao27, .agg #[.int .i64 1, .int .i64 1, .int .i64 0, .int .i64 0, .int .i64 0, .int .i64 0], .int .i64 0] rfl (by (try simp only [List.map_toArray, List.map_cons, List.map_nil]); first | done | rfl | (simp only [List.length_drop, List.length_take]; rfl)) ?_; (with_reducible refine (header_Put.calls _ t131.length t131 1 1 0 0 0 0 0 t134 t135 _ ?side1 ?side2 A2.out).mono ?_); (case side1 => repeat (first | exact (Kd.R_reads' HO133.out).2.2 | (with_reducible refine Kd.C_alloc ?_ _) | (with_reducible refine Kd.C_drewN ?_ _) | (with_reducible refine Kd.C_drew ?_))); (case side2 => exact Nat.le_refl _); rintro e w28 ⟨rfl, hb⟩; refine ⟨_, rfl, ?_⟩; have n0_ := Aside0.mk (Kd.R_below (by (with_reducible repeat (first | apply Kd.R_alloc | apply Kd.R_drewN | apply Kd.R_drew)); exact HO133.out) hb); have n1_ := Aside0.mk (below_step (by repeat (first | (with_reducible first | exact HB.out | apply below_alloc | apply pw_below_drewN | apply below_drew1) | exact HB.out)) hb); clear HO133; clear HB; have HO133 := n0_; have HB := n1_; clear n0_ n1_; (try clear hb); (try clear hb2); (try clear hk); (try clear hi)) | ((with_reducible refine gate_callee (f := 13) rfl ?_); refine goesL_ (some 13) rfl rfl Try.func13 (by kernel_rfl) rfl #[] rfl (by (try simp only [List.map_toArray, List.map_cons, List.map_nil]); first | done | rfl | (simp only [List.length_drop, List.length_take]; rfl)) ?_; (with_reducible refine (crc_Make.calls  t136 _ A3.out).mono ?_); rintro e w29 ⟨v137, rfl, ho0, hb⟩; refine ⟨_, rfl, ?_⟩; have n0_ := Aside0.mk (Kd.R_elder' (by (with_reducible repeat (first | apply Kd.R_alloc | apply Kd.R_drewN | apply Kd.R_drew)); exact HO133.out) (Kd.R_base ho0) hb); have n1_ := Aside0.mk (Kd.R_lower (Kd.R_new' ho0 (Kd.R_lt (by (with_reducible repeat (first | apply Kd.R_alloc | apply Kd.R_drewN | apply Kd.R_drew)); exact HO133.out))) (below_size (by repeat (first | (with_reducible first | exact HB.out | apply below_alloc | apply pw_below_drewN | apply below_drew1) | exact HB.out)))); have n2_ := Aside0.mk (below_step (by repeat (first | (with_reducible first | exact HB.out | apply below_alloc | apply pw_below_drewN | apply below_drew1) | exact HB.out)) hb); clear HO133; clear HB; have HO133 := n0_; have HO138 := n1_; have HB := n2_; clear n0_ n1_ n2_; (try clear hb); (try clear hb2); (try clear hk); (try clear hi); (try clear ho0); obtain ⟨Ao30, co30, eo30⟩ := Kd.R_slice HO138.out; subst eo30) | ((with_reducible refine gate_callee (f := 18) rfl ?_); refine goesL_ (some 14) rfl rfl Try.func18 (by kernel_rfl) rfl #[.pointer Ao30, .string (⟨#[83, 80, 76, 49]⟩ : ByteArray)] rfl (by (try simp only [List.map_toArray, List.map_cons, List.map_nil]); first | done | rfl | (simp only [List.length_drop, List.length_take]; rfl)) ?_; (with_reducible refine (header_Get.calls _ t136.length t136 (⟨#[83, 80, 76, 49]⟩ : ByteArray) t139 t140 t141 t142 t143 t144 t145 t146 _ ?side1 ?side2 A4.out).mono ?_); (case side1 => repeat (first | exact (Kd.R_reads' HO138.out).2.2 | (with_reducible refine Kd.C_alloc ?_ _) | (with_reducible refine Kd.C_drewN ?_ _) | (with_reducible refine Kd.C_drew ?_))); (case side2 => exact Nat.le_refl _); rintro e w31 ⟨rfl, hb⟩; refine ⟨_, rfl, ?_⟩; have n0_ := Aside0.mk (Kd.R_below (by (with_reducible repeat (first | apply Kd.R_alloc | apply Kd.R_drewN | apply Kd.R_drew)); exact HO133.out) hb); have n1_ := Aside0.mk (Kd.R_below (by (with_reducible repeat (first | apply Kd.R_alloc | apply Kd.R_drewN | apply Kd.R_drew)); exact HO138.out) hb); have n2_ := Aside0.mk (below_step (by repeat (first | (with_reducible first | exact HB.out | apply below_alloc | apply pw_below_drewN | apply below_drew1) | exact HB.out)) hb); clear HO133; clear HO138; clear HB; have HO133 := n0_; have HO138 := n1_; have HB := n2_; clear n0_ n1_ n2_; (try clear hb); (try clear hb2); (try clear hk); (try clear hi)) | ((with_reducible refine gate_dst (N := 3) rfl ?_); (try (refine gate_guard (by rfl) ?_; dsimp only)); refine box_event ?hg (N := 3) ?hd (cs := #[.int .i64 0, .int .i64 0, .int .i64 0, .int .i64 0, .int .i64 0, .int .i64 0]) (t := 23) ?hr ?_; (case hd => rfl); (case hg => rfl); (case hr => first | (go_simp; done) | (go_simp; rfl)); intro gb147 hg w32 hbox hb; have n0_ := Aside0.mk (Kd.R_below (by (with_reducible repeat (first | apply Kd.R_alloc | apply Kd.R_drewN | apply Kd.R_drew)); exact HO133.out) hb); have n1_ := Aside0.mk (Kd.R_below (by (with_reducible repeat (first | apply Kd.R_alloc | apply Kd.R_drewN | apply Kd.R_drew)); exact HO138.out) hb); have n2_ := Aside0.mk (below_step (by repeat (first | (with_reducible first | exact HB.out | apply below_alloc | apply pw_below_drewN | apply below_drew1) | exact HB.out)) hb); have n3_ := Aside0.mk (hbox); have n4_ := Aside0.mk ((by rw [hg]; exact (below_size (by repeat (first | (with_reducible first | exact HB.out | apply below_alloc | apply pw_below_drewN | apply below_drew1) | exact HB.out))) : w.heap.size ≤ gb147)); have n5_ := Aside0.mk ((by rw [hg]; exact (below_size (by repeat (first | (with_reducible first | exact HB.out | apply below_alloc | apply pw_below_drewN | apply below_drew1) | exact HB.out))) : w.heap.size ≤ gb147)); clear HO133; clear HO138; clear HB; have HO133 := n0_; have HO138 := n1_; have HB := n2_; have BK147 := n3_; have GW147 := n4_; have GE147 := n5_; clear n0_ n1_ n2_ n3_ n4_ n5_; clear hb hbox hg; have hcz33_0 : w32.cell? ⟨gb147, 0, none⟩ = some (.int .i64 0) := (blk_cell BK147.out 0).trans rfl; have hcz33_1 : w32.cell? ⟨gb147, 1, none⟩ = some (.int .i64 0) := (blk_cell BK147.out 1).trans rfl; have hcz33_2 : w32.cell? ⟨gb147, 2, none⟩ = some (.int .i64 0) := (blk_cell BK147.out 2).trans rfl; have hcz33_3 : w32.cell? ⟨gb147, 3, none⟩ = some (.int .i64 0) := (blk_cell BK147.out 3).trans rfl; have hcz33_4 : w32.cell? ⟨gb147, 4, none⟩ = some (.int .i64 0) := (blk_cell BK147.out 4).trans rfl; have hcz33_5 : w32.cell? ⟨gb147, 5, none⟩ = some (.int .i64 0) := (blk_cell BK147.out 5).trans rfl; have hfz33_0 := blk_frozen BK147.out 0; have hfz33_1 := blk_frozen BK147.out 1; have hfz33_2 := blk_frozen BK147.out 2; have hfz33_3 := blk_frozen BK147.out 3; have hfz33_4 := blk_frozen BK147.out 4; have hfz33_5 := blk_frozen BK147.out 5))
      go_ret
      exact ⟨by first | rfl | (simp [errW_none, errW_some] <;> rfl) | (simp [*, errW_none, errW_some] <;> rfl), by repeat (first | (with_reducible first | exact HB.out | apply below_alloc | apply pw_below_drewN | apply below_drew1 | refine below_set ?_ GE147.out) | exact HB.out)⟩
  · rw [if_neg c5] at H
    have c5b0 : (t135 == 0) = false := beq_eq_false_iff_ne.mpr c5
    have c5b1 : (t135 != 0) = true := bne_iff_ne.mpr c5
    obtain rfl := Option.some.inj H
    go_enter Try.func17, Try.ntmps17
    go_wp2_with (first | ((with_reducible refine gate_callee (f := 13) rfl ?_); refine goesL_ (some 7) rfl rfl Try.func13 (by kernel_rfl) rfl #[] rfl (by (try simp only [List.map_toArray, List.map_cons, List.map_nil]); first | done | rfl | (simp only [List.length_drop, List.length_take]; rfl)) ?_; (with_reducible refine (crc_Make.calls  t131 _ A1.out).mono ?_); rintro e w34 ⟨v132, rfl, ho0, hb⟩; refine ⟨_, rfl, ?_⟩; have n0_ := Aside0.mk (Kd.R_lower ho0 (below_size (by repeat (first | (with_reducible first | exact HB.out | apply below_alloc | apply pw_below_drewN | apply below_drew1) | exact HB.out)))); have n1_ := Aside0.mk (below_step (by repeat (first | (with_reducible first | exact HB.out | apply below_alloc | apply pw_below_drewN | apply below_drew1) | exact HB.out)) hb); clear HB; have HO133 := n0_; have HB := n1_; clear n0_ n1_; (try clear hb); (try clear hb2); (try clear hk); (try clear hi); (try clear ho0); obtain ⟨Ao35, co35, eo35⟩ := Kd.R_slice HO133.out; subst eo35) | ((with_reducible refine gate_callee (f := 12) rfl ?_); refine goesL_ (some 9) rfl rfl Try.func12 (by kernel_rfl) rfl #[.pointer Ao35, .agg #[.int .i64 1, .int .i64 1, .int .i64 0, .int .i64 0, .int .i64 0, .int .i64 0], .int .i64 0] rfl (by (try simp only [List.map_toArray, List.map_cons, List.map_nil]); first | done | rfl | (simp only [List.length_drop, List.length_take]; rfl)) ?_; (with_reducible refine (header_Put.calls _ t131.length t131 1 1 0 0 0 0 0 t134 t135 _ ?side1 ?side2 A2.out).mono ?_); (case side1 => repeat (first | exact (Kd.R_reads' HO133.out).2.2 | (with_reducible refine Kd.C_alloc ?_ _) | (with_reducible refine Kd.C_drewN ?_ _) | (with_reducible refine Kd.C_drew ?_))); (case side2 => exact Nat.le_refl _); rintro e w36 ⟨rfl, hb⟩; refine ⟨_, rfl, ?_⟩; have n0_ := Aside0.mk (Kd.R_below (by (with_reducible repeat (first | apply Kd.R_alloc | apply Kd.R_drewN | apply Kd.R_drew)); exact HO133.out) hb); have n1_ := Aside0.mk (below_step (by repeat (first | (with_reducible first | exact HB.out | apply below_alloc | apply pw_below_drewN | apply below_drew1) | exact HB.out)) hb); clear HO133; clear HB; have HO133 := n0_; have HB := n1_; clear n0_ n1_; (try clear hb); (try clear hb2); (try clear hk); (try clear hi)) | ((with_reducible refine gate_callee (f := 13) rfl ?_); refine goesL_ (some 13) rfl rfl Try.func13 (by kernel_rfl) rfl #[] rfl (by (try simp only [List.map_toArray, List.map_cons, List.map_nil]); first | done | rfl | (simp only [List.length_drop, List.length_take]; rfl)) ?_; (with_reducible refine (crc_Make.calls  t136 _ A3.out).mono ?_); rintro e w37 ⟨v137, rfl, ho0, hb⟩; refine ⟨_, rfl, ?_⟩; have n0_ := Aside0.mk (Kd.R_elder' (by (with_reducible repeat (first | apply Kd.R_alloc | apply Kd.R_drewN | apply Kd.R_drew)); exact HO133.out) (Kd.R_base ho0) hb); have n1_ := Aside0.mk (Kd.R_lower (Kd.R_new' ho0 (Kd.R_lt (by (with_reducible repeat (first | apply Kd.R_alloc | apply Kd.R_drewN | apply Kd.R_drew)); exact HO133.out))) (below_size (by repeat (first | (with_reducible first | exact HB.out | apply below_alloc | apply pw_below_drewN | apply below_drew1) | exact HB.out)))); have n2_ := Aside0.mk (below_step (by repeat (first | (with_reducible first | exact HB.out | apply below_alloc | apply pw_below_drewN | apply below_drew1) | exact HB.out)) hb); clear HO133; clear HB; have HO133 := n0_; have HO138 := n1_; have HB := n2_; clear n0_ n1_ n2_; (try clear hb); (try clear hb2); (try clear hk); (try clear hi); (try clear ho0); obtain ⟨Ao38, co38, eo38⟩ := Kd.R_slice HO138.out; subst eo38) | ((with_reducible refine gate_callee (f := 18) rfl ?_); refine goesL_ (some 14) rfl rfl Try.func18 (by kernel_rfl) rfl #[.pointer Ao38, .string (⟨#[83, 80, 76, 49]⟩ : ByteArray)] rfl (by (try simp only [List.map_toArray, List.map_cons, List.map_nil]); first | done | rfl | (simp only [List.length_drop, List.length_take]; rfl)) ?_; (with_reducible refine (header_Get.calls _ t136.length t136 (⟨#[83, 80, 76, 49]⟩ : ByteArray) t139 t140 t141 t142 t143 t144 t145 t146 _ ?side1 ?side2 A4.out).mono ?_); (case side1 => repeat (first | exact (Kd.R_reads' HO138.out).2.2 | (with_reducible refine Kd.C_alloc ?_ _) | (with_reducible refine Kd.C_drewN ?_ _) | (with_reducible refine Kd.C_drew ?_))); (case side2 => exact Nat.le_refl _); rintro e w39 ⟨rfl, hb⟩; refine ⟨_, rfl, ?_⟩; have n0_ := Aside0.mk (Kd.R_below (by (with_reducible repeat (first | apply Kd.R_alloc | apply Kd.R_drewN | apply Kd.R_drew)); exact HO133.out) hb); have n1_ := Aside0.mk (Kd.R_below (by (with_reducible repeat (first | apply Kd.R_alloc | apply Kd.R_drewN | apply Kd.R_drew)); exact HO138.out) hb); have n2_ := Aside0.mk (below_step (by repeat (first | (with_reducible first | exact HB.out | apply below_alloc | apply pw_below_drewN | apply below_drew1) | exact HB.out)) hb); clear HO133; clear HO138; clear HB; have HO133 := n0_; have HO138 := n1_; have HB := n2_; clear n0_ n1_ n2_; (try clear hb); (try clear hb2); (try clear hk); (try clear hi)) | ((with_reducible refine gate_dst (N := 3) rfl ?_); (try (refine gate_guard (by rfl) ?_; dsimp only)); refine box_event ?hg (N := 3) ?hd (cs := #[.int .i64 0, .int .i64 0, .int .i64 0, .int .i64 0, .int .i64 0, .int .i64 0]) (t := 23) ?hr ?_; (case hd => rfl); (case hg => rfl); (case hr => first | (go_simp; done) | (go_simp; rfl)); intro gb147 hg w40 hbox hb; have n0_ := Aside0.mk (Kd.R_below (by (with_reducible repeat (first | apply Kd.R_alloc | apply Kd.R_drewN | apply Kd.R_drew)); exact HO133.out) hb); have n1_ := Aside0.mk (Kd.R_below (by (with_reducible repeat (first | apply Kd.R_alloc | apply Kd.R_drewN | apply Kd.R_drew)); exact HO138.out) hb); have n2_ := Aside0.mk (below_step (by repeat (first | (with_reducible first | exact HB.out | apply below_alloc | apply pw_below_drewN | apply below_drew1) | exact HB.out)) hb); have n3_ := Aside0.mk (hbox); have n4_ := Aside0.mk ((by rw [hg]; exact (below_size (by repeat (first | (with_reducible first | exact HB.out | apply below_alloc | apply pw_below_drewN | apply below_drew1) | exact HB.out))) : w.heap.size ≤ gb147)); have n5_ := Aside0.mk ((by rw [hg]; exact (below_size (by repeat (first | (with_reducible first | exact HB.out | apply below_alloc | apply pw_below_drewN | apply below_drew1) | exact HB.out))) : w.heap.size ≤ gb147)); clear HO133; clear HO138; clear HB; have HO133 := n0_; have HO138 := n1_; have HB := n2_; have BK147 := n3_; have GW147 := n4_; have GE147 := n5_; clear n0_ n1_ n2_ n3_ n4_ n5_; clear hb hbox hg; have hcz41_0 : w40.cell? ⟨gb147, 0, none⟩ = some (.int .i64 0) := (blk_cell BK147.out 0).trans rfl; have hcz41_1 : w40.cell? ⟨gb147, 1, none⟩ = some (.int .i64 0) := (blk_cell BK147.out 1).trans rfl; have hcz41_2 : w40.cell? ⟨gb147, 2, none⟩ = some (.int .i64 0) := (blk_cell BK147.out 2).trans rfl; have hcz41_3 : w40.cell? ⟨gb147, 3, none⟩ = some (.int .i64 0) := (blk_cell BK147.out 3).trans rfl; have hcz41_4 : w40.cell? ⟨gb147, 4, none⟩ = some (.int .i64 0) := (blk_cell BK147.out 4).trans rfl; have hcz41_5 : w40.cell? ⟨gb147, 5, none⟩ = some (.int .i64 0) := (blk_cell BK147.out 5).trans rfl; have hfz41_0 := blk_frozen BK147.out 0; have hfz41_1 := blk_frozen BK147.out 1; have hfz41_2 := blk_frozen BK147.out 2; have hfz41_3 := blk_frozen BK147.out 3; have hfz41_4 := blk_frozen BK147.out 4; have hfz41_5 := blk_frozen BK147.out 5))
    go_ret
    exact ⟨by first | rfl | (simp [errW_none, errW_some] <;> rfl) | (simp [*, errW_none, errW_some] <;> rfl), by repeat (first | (with_reducible first | exact HB.out | apply below_alloc | apply pw_below_drewN | apply below_drew1 | refine below_set ?_ GE147.out) | exact HB.out)⟩

end Go.Proofs.Ythdlikiakegekaa.S
