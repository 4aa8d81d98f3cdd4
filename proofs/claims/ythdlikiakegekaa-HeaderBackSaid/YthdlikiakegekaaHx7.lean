-- Written for this claim by a program of the session (myprint.py), out of the translation's own print; Lean checks it.
import Derived.Test.YthdlikiakegekaaHx0
import Derived.Test.YthdlikiakegekaaHx3
import Derived.Test.YthdlikiakegekaaHx4
namespace Go.Proofs.Ythdlikiakegekaa.S
open Go.RowKit Go.Proofs.YthdlikiakegekaaW.PrintWords Go.Proofs.YthdlikiakegekaaW.PrintLast Go.Proofs.YthdlikiakegekaaW.PrintMore
attribute [local go_sem] max2_int min2_int max_two min_two max_three min_three max_four min_four   -- for this text's walks alone
set_option linter.unusedVariables false
set_option linter.unusedSimpArgs false

/-- A state of type 59 at block g of W; what its slices lead to came in by w0. -/
def IsS59 (w0 W : World) (g : Nat) (f0 : ByteArray) (f1 : Int) (f2 : Bool) : Prop := W.heap[g]? = some (.cells #[.string f0, .int .i64 f1, .bool f2] 59 (0, 0)) ∧ w0.heap.size ≤ g
theorem IsS59.grown {w0 W : World} {g : Nat} {f0 : ByteArray} {f1 : Int} {f2 : Bool} {W1 : World} {row : Option Nat} (h : IsS59 w0 W g f0 f1 f2) (hw : W.grownBy W1 row) (hne : some g ≠ row) : IsS59 w0 W1 g f0 f1 f2 := by
  obtain ⟨hb, hg⟩ := h
  exact ⟨blk_grown hb hw hne, hg⟩
theorem IsS59.own_neN {w0 W : World} {g : Nat} {f0 : ByteArray} {f1 : Int} {f2 : Bool} {α : Type} {d : Kd α} {e : Nat} {base : Nat} {ok : Nat → Prop} {v : Value} {xs : List α} (h : IsS59 w0 W g f0 f1 f2) (ho : Kd.N d e W base ok v xs) (ht : e ≠ 59) : some g ≠ v.ownBlock := by
  obtain ⟨hb, hg⟩ := h
  exact Kd.N_ne ho hb ht
theorem IsS59.fresh {w0 W : World} {g : Nat} {f0 : ByteArray} {f1 : Int} {f2 : Bool} (h : IsS59 w0 W g f0 f1 f2) : ∀ k, W.heap.size ≤ k → k ≠ g := by
  obtain ⟨hb, hg⟩ := h
  exact Kd.freshB hb
theorem IsS59.kept {w0 W : World} {g : Nat} {f0 : ByteArray} {f1 : Int} {f2 : Bool} {W1 : World} {S : Nat → Prop} (h : IsS59 w0 W g f0 f1 f2) (hk : Kept W W1 S) (hne : ¬ S g) : IsS59 w0 W1 g f0 f1 f2 := by
  obtain ⟨hb, hg⟩ := h
  exact ⟨blk_kept hb hk hne, hg⟩
theorem IsS59.below {w0 W : World} {g : Nat} {f0 : ByteArray} {f1 : Int} {f2 : Bool} {W1 : World} (h : IsS59 w0 W g f0 f1 f2) (hw : Below W.heap.size W W1) : IsS59 w0 W1 g f0 f1 f2 := h.grown (grown_of_below hw none) (by simp)
theorem IsS59.alloc {w0 W : World} {g : Nat} {f0 : ByteArray} {f1 : Int} {f2 : Bool} (h : IsS59 w0 W g f0 f1 f2) (o : Obj) : IsS59 w0 (W.alloc o) g f0 f1 f2 := h.below (below_alloc (Below.refl _ _) o)
theorem IsS59.drewN {w0 W : World} {g : Nat} {f0 : ByteArray} {f1 : Int} {f2 : Bool} (h : IsS59 w0 W g f0 f1 f2) (m : Nat) : IsS59 w0 (W.drewN m) g f0 f1 f2 := h
theorem IsS59.drew {w0 W : World} {g : Nat} {f0 : ByteArray} {f1 : Int} {f2 : Bool} (h : IsS59 w0 W g f0 f1 f2) : IsS59 w0 W.drew g f0 f1 f2 := h
theorem IsS59.at_ {w0 W : World} {g : Nat} {f0 : ByteArray} {f1 : Int} {f2 : Bool} {w' : World} {m : Nat} (hq : W.drewN m = w') (h : IsS59 w0 W g f0 f1 f2) : IsS59 w0 w' g f0 f1 f2 := by subst hq; exact IsS59.drewN h m
theorem IsS59.apart {w0 W : World} {g : Nat} {f0 : ByteArray} {f1 : Int} {f2 : Bool} {α : Type} {d : Kd α} {e : Nat} {base : Nat} {ok : Nat → Prop} {v : Value} {xs : List α} (h : IsS59 w0 W g f0 f1 f2) (ho : d.R e W base ok v xs) (ht : ∀ q, q ∈ e :: d.E → q ≠ 59) : d.R e W base (fun k => ok k ∧ k ≠ g) v xs := by
  obtain ⟨hb, hg⟩ := h
  exact Kd.R_types ho hb ht
theorem IsS59.own_ne {w0 W : World} {g : Nat} {f0 : ByteArray} {f1 : Int} {f2 : Bool} {α : Type} {d : Kd α} {e : Nat} {base : Nat} {ok : Nat → Prop} {v : Value} {xs : List α} (h : IsS59 w0 W g f0 f1 f2) (ho : d.R e W base ok v xs) (ht : e ≠ 59) : some g ≠ v.ownBlock := by
  obtain ⟨hb, hg⟩ := h
  exact Kd.R_ne ho hb ht
theorem IsS59.apartQ {w0 W : World} {g : Nat} {f0 : ByteArray} {f1 : Int} {f2 : Bool} {α : Type} {d : Kd α} {e : Nat} {base : Nat} {ok : Nat → Prop} {v : Value} {xs : List α} (h : IsS59 w0 W g f0 f1 f2) (ho : d.Q e W base ok v xs) (ht : ∀ q, q ∈ e :: d.E → q ≠ 59) : d.Q e W base (fun k => ok k ∧ k ≠ g) v xs := by
  obtain ⟨hb, hg⟩ := h
  exact Kd.Q_types ho hb ht
theorem IsS59.own_neQ {w0 W : World} {g : Nat} {f0 : ByteArray} {f1 : Int} {f2 : Bool} {α : Type} {d : Kd α} {e : Nat} {base : Nat} {ok : Nat → Prop} {v : Value} {xs : List α} (h : IsS59 w0 W g f0 f1 f2) (ho : d.Q e W base ok v xs) (ht : e ≠ 59) : some g ≠ v.ownBlock := by
  obtain ⟨hb, hg⟩ := h
  exact Kd.Q_ne ho hb ht
theorem IsS59.apartS {w0 W : World} {g : Nat} {f0 : ByteArray} {f1 : Int} {f2 : Bool} {α : Type} {d : Kd α} {e : Nat} {base : Nat} {ok : Nat → Prop} {v : Value} {xs : List α} (h : IsS59 w0 W g f0 f1 f2) (ho : d.S e W base ok v xs) (ht : ∀ q, q ∈ e :: d.E → q ≠ 59) : d.S e W base (fun k => ok k ∧ k ≠ g) v xs := by
  obtain ⟨hb, hg⟩ := h
  exact Kd.S_types ho hb ht
theorem IsS59.own_neS {w0 W : World} {g : Nat} {f0 : ByteArray} {f1 : Int} {f2 : Bool} {α : Type} {d : Kd α} {e : Nat} {base : Nat} {ok : Nat → Prop} {v : Value} {xs : List α} (h : IsS59 w0 W g f0 f1 f2) (ho : d.S e W base ok v xs) (ht : e ≠ 59) : some g ≠ v.ownBlock := by
  obtain ⟨hb, hg⟩ := h
  exact Kd.S_ne ho hb ht
theorem IsS59.lt {w0 W : World} {g : Nat} {f0 : ByteArray} {f1 : Int} {f2 : Bool} (h : IsS59 w0 W g f0 f1 f2) : g < W.heap.size := by
  obtain ⟨hb, hg⟩ := h
  exact blk_lt hb
theorem IsS59.ge {w0 W : World} {g : Nat} {f0 : ByteArray} {f1 : Int} {f2 : Bool} (h : IsS59 w0 W g f0 f1 f2) : w0.heap.size ≤ g := by
  obtain ⟨hb, hg⟩ := h
  exact hg
theorem IsS59.ne_blk {w0 W : World} {g : Nat} {f0 : ByteArray} {f1 : Int} {f2 : Bool} {a : Nat} {cs : Array Value} {t : TypeId} {fr : Nat × Nat} (h : IsS59 w0 W g f0 f1 f2) (hb2 : W.heap[a]? = some (.cells cs t fr)) (ht : t ≠ 59) : g ≠ a := by
  obtain ⟨hb, hg⟩ := h
  rintro rfl
  rw [hb] at hb2
  injection hb2 with hb2
  injection hb2 with _ ht2
  exact ht ht2.symm
theorem IsS59.far {w0 W : World} {g : Nat} {f0 : ByteArray} {f1 : Int} {f2 : Bool} {p : Addr} (h : IsS59 w0 W g f0 f1 f2) (hne : g ≠ p.block) (u : Value) : IsS59 w0 (W.setCell p u) g f0 f1 f2 := by
  obtain ⟨hb, hg⟩ := h
  exact ⟨blk_far hb hne u, hg⟩
theorem cellS59_0 {W : World} {g : Nat} {f0 : ByteArray} {f1 : Int} {f2 : Bool} (h : W.heap[g]? = some (.cells #[.string f0, .int .i64 f1, .bool f2] 59 (0, 0))) : W.cell? ⟨g, 0, none⟩ = some (.string f0) := (blk_cell h 0).trans rfl
theorem IsS59.set_0 {w0 W : World} {g : Nat} {f0 : ByteArray} {f1 : Int} {f2 : Bool} (h : IsS59 w0 W g f0 f1 f2) (x : ByteArray) : IsS59 w0 (W.setCell ⟨g, 0, none⟩ (.string x)) g x f1 f2 := by
  obtain ⟨hb, hg⟩ := h
  exact ⟨by simpa using blk_set hb 0 (.string x), hg⟩
theorem cellS59_1 {W : World} {g : Nat} {f0 : ByteArray} {f1 : Int} {f2 : Bool} (h : W.heap[g]? = some (.cells #[.string f0, .int .i64 f1, .bool f2] 59 (0, 0))) : W.cell? ⟨g, 1, none⟩ = some (.int .i64 f1) := (blk_cell h 1).trans rfl
theorem IsS59.set_1 {w0 W : World} {g : Nat} {f0 : ByteArray} {f1 : Int} {f2 : Bool} (h : IsS59 w0 W g f0 f1 f2) (x : Int) : IsS59 w0 (W.setCell ⟨g, 1, none⟩ (.int .i64 x)) g f0 x f2 := by
  obtain ⟨hb, hg⟩ := h
  exact ⟨by simpa using blk_set hb 1 (.int .i64 x), hg⟩
theorem cellS59_2 {W : World} {g : Nat} {f0 : ByteArray} {f1 : Int} {f2 : Bool} (h : W.heap[g]? = some (.cells #[.string f0, .int .i64 f1, .bool f2] 59 (0, 0))) : W.cell? ⟨g, 2, none⟩ = some (.bool f2) := (blk_cell h 2).trans rfl
theorem IsS59.set_2 {w0 W : World} {g : Nat} {f0 : ByteArray} {f1 : Int} {f2 : Bool} (h : IsS59 w0 W g f0 f1 f2) (x : Bool) : IsS59 w0 (W.setCell ⟨g, 2, none⟩ (.bool x)) g f0 f1 x := by
  obtain ⟨hb, hg⟩ := h
  exact ⟨by simpa using blk_set hb 2 (.bool x), hg⟩
theorem IsS59.new (w0 W : World) (f0 : ByteArray) (f1 : Int) (f2 : Bool) (hB : Below w0.heap.size w0 W) : IsS59 w0 (W.alloc (.cells #[.string f0, .int .i64 f1, .bool f2] 59)) W.heap.size f0 f1 f2 := ⟨by simpa using heap_alloc_new W _, hB.size⟩

/-! ### splicerref02_Reader_Text: function 62 -/
def splicerref02_Reader_Text.f (s0_0 : ByteArray) (s0_1 : Int) (s0_2 : Bool) (a1 : Int) : Option (ByteArray × ByteArray × Int × Bool) := if s0_2 = true then (some ((⟨#[]⟩ : ByteArray), s0_0, s0_1, true)) else (if a1 < 0 then (some ((⟨#[]⟩ : ByteArray), s0_0, s0_1, true)) else (if a1 > (wrap64 ((s0_0.size : Int) - s0_1)) then (some ((⟨#[]⟩ : ByteArray), s0_0, s0_1, true)) else (if 0 ≤ (wrap64 ((wrap64 (s0_1 + a1)) - a1)) then (if (wrap64 ((wrap64 (s0_1 + a1)) - a1)) ≤ (wrap64 (s0_1 + a1)) then (if (wrap64 (s0_1 + a1)) ≤ (s0_0.size : Int) then (some (s0_0.extract ((wrap64 ((wrap64 (s0_1 + a1)) - a1)) : Int).toNat ((wrap64 (s0_1 + a1)) : Int).toNat, s0_0, wrap64 (s0_1 + a1), s0_2)) else (none)) else (none)) else (none))))
set_option maxHeartbeats 8000000 in
set_option maxRecDepth 100000 in
theorem splicerref02_Reader_Text.calls (g : Nat) (s0_0 : ByteArray) (s0_1 : Int) (s0_2 : Bool) (a1 : Int) (r1 : ByteArray) (r2 : ByteArray) (r3 : Int) (r4 : Bool) (w0 w : World) (hI : IsS59 w0 w g s0_0 s0_1 s0_2) (hB : Below w0.heap.size w0 w) (h : splicerref02_Reader_Text.f s0_0 s0_1 s0_2 a1 = some (r1, r2, r3, r4)) :
    Calls Try.prog 62 #[.pointer (some ⟨g, 0, none⟩), .int .i64 a1] w fun e w' => e = .returned (.string r1) ∧ IsS59 w0 w' g r2 r3 r4 ∧ Below w0.heap.size w0 w' ∧ KeepBut w w' g none := by
  have HI0 := Aside0.mk hI
  have HK := Aside0.mk (KeepBut.refl w g none)
  have HL := Aside0.mk hB.size
  clear hI
  have HW0 := Aside0.mk hB.size
  have HB := Aside0.mk hB
  clear hB
  have H : (if s0_2 = true then (some ((⟨#[]⟩ : ByteArray), s0_0, s0_1, true)) else (if a1 < 0 then (some ((⟨#[]⟩ : ByteArray), s0_0, s0_1, true)) else (if a1 > (wrap64 ((s0_0.size : Int) - s0_1)) then (some ((⟨#[]⟩ : ByteArray), s0_0, s0_1, true)) else (if 0 ≤ (wrap64 ((wrap64 (s0_1 + a1)) - a1)) then (if (wrap64 ((wrap64 (s0_1 + a1)) - a1)) ≤ (wrap64 (s0_1 + a1)) then (if (wrap64 (s0_1 + a1)) ≤ (s0_0.size : Int) then (some (s0_0.extract ((wrap64 ((wrap64 (s0_1 + a1)) - a1)) : Int).toNat ((wrap64 (s0_1 + a1)) : Int).toNat, s0_0, wrap64 (s0_1 + a1), s0_2)) else (none)) else (none)) else (none))))) = some (r1, r2, r3, r4) := h
  clear h
  by_cases c3 : s0_2 = true
  · subst c3
    have H1 : (some ((⟨#[]⟩ : ByteArray), s0_0, s0_1, true)) = some (r1, r2, r3, r4) := by rw [if_pos rfl] at H; exact H
    clear H
    have H := H1
    clear H1
    simp only [Option.some.injEq, Prod.mk.injEq] at H
    obtain ⟨rfl, rfl, rfl, rfl⟩ := H
    obtain ⟨HGz4, hgz4⟩ := HI0.out
    have hcz4_0 := cellS59_0 HGz4
    have hcz4_1 := cellS59_1 HGz4
    have hcz4_2 := cellS59_2 HGz4
    have hfz4_0 := blk_frozen HGz4 0
    have hfz4_1 := blk_frozen HGz4 1
    have hfz4_2 := blk_frozen HGz4 2
    clear HGz4 hgz4
    go_enter Try.func62, Try.ntmps62
    go_wp2
    repeat (go_quiet (fail); try go_wp2)
    go_ret
    exact ⟨by first | rfl | (simp [errW_none, errW_some] <;> rfl) | (simp [*, errW_none, errW_some] <;> rfl), by repeat (first | (with_reducible first | exact HI0.out | apply IsS59.alloc | apply IsS59.drewN | apply IsS59.drew | apply IsS59.set_0 | apply IsS59.set_1 | apply IsS59.set_2) | exact HI0.out), by repeat (first | (with_reducible first | exact HB.out | apply below_alloc | apply pw_below_drewN | apply below_drew1 | refine below_set ?_ (IsS59.ge HI0.out)) | exact HB.out), by repeat (first | (with_reducible first | exact HK.out | apply KeepBut.set_ | apply keep_drewN | apply keep_drew | apply keep_alloc) | exact HK.out)⟩
  · replace c3 := Bool.eq_false_iff.mpr c3
    subst c3
    have H1 : (if a1 < 0 then (some ((⟨#[]⟩ : ByteArray), s0_0, s0_1, true)) else (if a1 > (wrap64 ((s0_0.size : Int) - s0_1)) then (some ((⟨#[]⟩ : ByteArray), s0_0, s0_1, true)) else (if 0 ≤ (wrap64 ((wrap64 (s0_1 + a1)) - a1)) then (if (wrap64 ((wrap64 (s0_1 + a1)) - a1)) ≤ (wrap64 (s0_1 + a1)) then (if (wrap64 (s0_1 + a1)) ≤ (s0_0.size : Int) then (some (s0_0.extract ((wrap64 ((wrap64 (s0_1 + a1)) - a1)) : Int).toNat ((wrap64 (s0_1 + a1)) : Int).toNat, s0_0, wrap64 (s0_1 + a1), false)) else (none)) else (none)) else (none)))) = some (r1, r2, r3, r4) := by rw [if_neg (show ¬ (false = true) by decide)] at H; exact H
    clear H
    have H := H1
    clear H1
    by_cases c5 : a1 < 0
    · rw [if_pos c5] at H
      have c5b0 : decide (a1 < 0) = true := decide_eq_true c5
      clear c5
      simp only [Option.some.injEq, Prod.mk.injEq] at H
      obtain ⟨rfl, rfl, rfl, rfl⟩ := H
      obtain ⟨HGz6, hgz6⟩ := HI0.out
      have hcz6_0 := cellS59_0 HGz6
      have hcz6_1 := cellS59_1 HGz6
      have hcz6_2 := cellS59_2 HGz6
      have hfz6_0 := blk_frozen HGz6 0
      have hfz6_1 := blk_frozen HGz6 1
      have hfz6_2 := blk_frozen HGz6 2
      clear HGz6 hgz6
      go_enter Try.func62, Try.ntmps62
      go_wp2
      repeat (go_quiet (fail); try go_wp2)
      go_ret
      exact ⟨by first | rfl | (simp [errW_none, errW_some] <;> rfl) | (simp [*, errW_none, errW_some] <;> rfl), by repeat (first | (with_reducible first | exact HI0.out | apply IsS59.alloc | apply IsS59.drewN | apply IsS59.drew | apply IsS59.set_0 | apply IsS59.set_1 | apply IsS59.set_2) | exact HI0.out), by repeat (first | (with_reducible first | exact HB.out | apply below_alloc | apply pw_below_drewN | apply below_drew1 | refine below_set ?_ (IsS59.ge HI0.out)) | exact HB.out), by repeat (first | (with_reducible first | exact HK.out | apply KeepBut.set_ | apply keep_drewN | apply keep_drew | apply keep_alloc) | exact HK.out)⟩
    · rw [if_neg c5] at H
      have c5b0 : decide (a1 < 0) = false := decide_eq_false c5
      clear c5
      by_cases c7 : a1 > (wrap64 ((s0_0.size : Int) - s0_1))
      · rw [if_pos c7] at H
        have c7b0 : decide ((wrap64 ((s0_0.size : Int) - s0_1)) < a1) = true := decide_eq_true c7
        clear c7
        simp only [Option.some.injEq, Prod.mk.injEq] at H
        obtain ⟨rfl, rfl, rfl, rfl⟩ := H
        obtain ⟨HGz8, hgz8⟩ := HI0.out
        have hcz8_0 := cellS59_0 HGz8
        have hcz8_1 := cellS59_1 HGz8
        have hcz8_2 := cellS59_2 HGz8
        have hfz8_0 := blk_frozen HGz8 0
        have hfz8_1 := blk_frozen HGz8 1
        have hfz8_2 := blk_frozen HGz8 2
        clear HGz8 hgz8
        go_enter Try.func62, Try.ntmps62
        go_wp2
        repeat (go_quiet (fail); try go_wp2)
        go_ret
        exact ⟨by first | rfl | (simp [errW_none, errW_some] <;> rfl) | (simp [*, errW_none, errW_some] <;> rfl), by repeat (first | (with_reducible first | exact HI0.out | apply IsS59.alloc | apply IsS59.drewN | apply IsS59.drew | apply IsS59.set_0 | apply IsS59.set_1 | apply IsS59.set_2) | exact HI0.out), by repeat (first | (with_reducible first | exact HB.out | apply below_alloc | apply pw_below_drewN | apply below_drew1 | refine below_set ?_ (IsS59.ge HI0.out)) | exact HB.out), by repeat (first | (with_reducible first | exact HK.out | apply KeepBut.set_ | apply keep_drewN | apply keep_drew | apply keep_alloc) | exact HK.out)⟩
      · rw [if_neg c7] at H
        have c7b0 : decide ((wrap64 ((s0_0.size : Int) - s0_1)) < a1) = false := decide_eq_false c7
        clear c7
        obtain ⟨ji9, hji9⟩ : ∃ j_ : Int, (wrap64 ((wrap64 (s0_1 + a1)) - a1)) = j_ := ⟨_, rfl⟩
        replace H : (if 0 ≤ (ji9) then (if (ji9) ≤ (wrap64 (s0_1 + a1)) then (if (wrap64 (s0_1 + a1)) ≤ (s0_0.size : Int) then (some (s0_0.extract ((ji9) : Int).toNat ((wrap64 (s0_1 + a1)) : Int).toNat, s0_0, wrap64 (s0_1 + a1), false)) else (none)) else (none)) else (none)) = some (r1, r2, r3, r4) := by first | (rw [hji9] at H; exact H) | (simp only [hji9] at H ⊢; exact H)
        have hji9w : (IntKind.i64.wrap ((wrap64 (s0_1 + a1)) - a1)) = ji9 := (i64_w _).trans hji9
        by_cases c10 : 0 ≤ (ji9)
        · rw [if_pos c10] at H
          have c10b0 := eq_true c10
          have c10b1 : decide (0 ≤ (ji9)) = true := decide_eq_true c10
          clear c10
          by_cases c11 : (ji9) ≤ (wrap64 (s0_1 + a1))
          · rw [if_pos c11] at H
            have c11b0 := eq_true c11
            have c11b1 : decide ((ji9) ≤ (wrap64 (s0_1 + a1))) = true := decide_eq_true c11
            by_cases c12 : (wrap64 (s0_1 + a1)) ≤ (s0_0.size : Int)
            · rw [if_pos c12] at H
              have c12b0 := eq_true c12
              have c12b1 : decide ((wrap64 (s0_1 + a1)) ≤ (s0_0.size : Int)) = true := decide_eq_true c12
              simp only [Option.some.injEq, Prod.mk.injEq] at H
              obtain ⟨rfl, rfl, rfl, rfl⟩ := H
              obtain ⟨HGz13, hgz13⟩ := HI0.out
              have hcz13_0 := cellS59_0 HGz13
              have hcz13_1 := cellS59_1 HGz13
              have hcz13_2 := cellS59_2 HGz13
              have hfz13_0 := blk_frozen HGz13 0
              have hfz13_1 := blk_frozen HGz13 1
              have hfz13_2 := blk_frozen HGz13 2
              clear HGz13 hgz13
              go_enter Try.func62, Try.ntmps62
              go_wp2
              repeat (go_quiet (fail); try go_wp2)
              go_ret
              exact ⟨by first | rfl | (simp [errW_none, errW_some] <;> rfl) | (simp only [← hji9]; first | rfl | (simp [errW_none, errW_some] <;> rfl)) | (simp [*, errW_none, errW_some] <;> rfl), by repeat (first | (with_reducible first | exact HI0.out | apply IsS59.alloc | apply IsS59.drewN | apply IsS59.drew | apply IsS59.set_0 | apply IsS59.set_1 | apply IsS59.set_2) | exact HI0.out), by repeat (first | (with_reducible first | exact HB.out | apply below_alloc | apply pw_below_drewN | apply below_drew1 | refine below_set ?_ (IsS59.ge HI0.out)) | exact HB.out), by repeat (first | (with_reducible first | exact HK.out | apply KeepBut.set_ | apply keep_drewN | apply keep_drew | apply keep_alloc) | exact HK.out)⟩
            · rw [if_neg c12] at H
              exact absurd H (by simp)
          · rw [if_neg c11] at H
            exact absurd H (by simp)
        · rw [if_neg c10] at H
          exact absurd H (by simp)

/-! ### splicerref02_Reader_Num: function 52 -/
mutual
def splicerref02_Reader_Num.j0 : Nat → Int → Bool → ByteArray → Int → Bool → Option (Int × ByteArray × Int × Bool)
  | 0, _, _, _, _, _ => none
  | k + 1, x1, x13, x1000, x1001, x1002 => if x13 = true then (splicerref02_Reader_Num.j1 k x1 x1000 x1001 true) else (splicerref02_Reader_Num.j1 k x1 x1000 x1001 x1002)
def splicerref02_Reader_Num.j1 : Nat → Int → ByteArray → Int → Bool → Option (Int × ByteArray × Int × Bool)
  | 0, _, _, _, _ => none
  | k + 1, x1, x1000, x1001, x1002 => (splicerref02_Reader_Text.f x1000 x1001 x1002 x1).bind fun bt161 => (splicerref02_Reader_Num.l0 k bt161.1 0 0 bt161.2.1 bt161.2.2.1 bt161.2.2.2)
def splicerref02_Reader_Num.l0 : Nat → ByteArray → Int → Int → ByteArray → Int → Bool → Option (Int × ByteArray × Int × Bool)
  | 0, _, _, _, _, _, _ => none
  | k + 1, x5, x6, x7, x1000, x1001, x1002 => if x7 < (x5.size : Int) then (if 0 ≤ x7 then (splicerref02_Reader_Num.l0 k x5 (wrap64 ((wrap64 (x6 * 256)) + (wrap64 (bt x5 x7)))) (wrap64 (x7 + 1)) x1000 x1001 x1002) else (none)) else (some (x6, x1000, x1001, x1002))
end
def splicerref02_Reader_Num.f (k : Nat) (s0_0 : ByteArray) (s0_1 : Int) (s0_2 : Bool) (a1 : Int) : Option (Int × ByteArray × Int × Bool) := if a1 < 1 then (splicerref02_Reader_Num.j0 k a1 true s0_0 s0_1 s0_2) else (splicerref02_Reader_Num.j0 k a1 (decide (a1 > 7)) s0_0 s0_1 s0_2)
theorem splicerref02_Reader_Num.mono_l : ∀ k, (∀ y0 y1 y2 y3 y4, LeO (splicerref02_Reader_Num.j0 k y0 y1 y2 y3 y4) (splicerref02_Reader_Num.j0 (k + 1) y0 y1 y2 y3 y4)) ∧ (∀ y0 y1 y2 y3, LeO (splicerref02_Reader_Num.j1 k y0 y1 y2 y3) (splicerref02_Reader_Num.j1 (k + 1) y0 y1 y2 y3)) ∧ (∀ y0 y1 y2 y3 y4 y5, LeO (splicerref02_Reader_Num.l0 k y0 y1 y2 y3 y4 y5) (splicerref02_Reader_Num.l0 (k + 1) y0 y1 y2 y3 y4 y5))
  | 0 => ⟨fun _ _ _ _ _ r h => by simp [splicerref02_Reader_Num.j0] at h, fun _ _ _ _ r h => by simp [splicerref02_Reader_Num.j1] at h, fun _ _ _ _ _ _ r h => by simp [splicerref02_Reader_Num.l0] at h⟩
  | k + 1 => by
    obtain ⟨ih0, ih1, ih2⟩ := splicerref02_Reader_Num.mono_l k
    refine ⟨?_, ?_, ?_⟩
    · intro y0 y1 y2 y3 y4
      unfold splicerref02_Reader_Num.j0
      repeat' first
      | (with_reducible exact ih0 _ _ _ _ _)
      | (with_reducible exact ih1 _ _ _ _)
      | (with_reducible exact ih2 _ _ _ _ _ _)
      | (with_reducible exact LeO.refl _)
      | (with_reducible exact LeO.none _)
      | (with_reducible refine LeO.ite ?_ ?_)
      | (with_reducible refine LeO.bind ?_ (fun _ => ?_))
      | exact ih0 _ _ _ _ _
      | exact ih1 _ _ _ _
      | exact ih2 _ _ _ _ _ _
      | exact LeO.none _
      | refine LeO.ite ?_ ?_
      | refine LeO.bind ?_ (fun _ => ?_)
    · intro y0 y1 y2 y3
      unfold splicerref02_Reader_Num.j1
      repeat' first
      | (with_reducible exact ih0 _ _ _ _ _)
      | (with_reducible exact ih1 _ _ _ _)
      | (with_reducible exact ih2 _ _ _ _ _ _)
      | (with_reducible exact LeO.refl _)
      | (with_reducible exact LeO.none _)
      | (with_reducible refine LeO.ite ?_ ?_)
      | (with_reducible refine LeO.bind ?_ (fun _ => ?_))
      | exact ih0 _ _ _ _ _
      | exact ih1 _ _ _ _
      | exact ih2 _ _ _ _ _ _
      | exact LeO.none _
      | refine LeO.ite ?_ ?_
      | refine LeO.bind ?_ (fun _ => ?_)
    · intro y0 y1 y2 y3 y4 y5
      unfold splicerref02_Reader_Num.l0
      repeat' first
      | (with_reducible exact ih0 _ _ _ _ _)
      | (with_reducible exact ih1 _ _ _ _)
      | (with_reducible exact ih2 _ _ _ _ _ _)
      | (with_reducible exact LeO.refl _)
      | (with_reducible exact LeO.none _)
      | (with_reducible refine LeO.ite ?_ ?_)
      | (with_reducible refine LeO.bind ?_ (fun _ => ?_))
      | exact ih0 _ _ _ _ _
      | exact ih1 _ _ _ _
      | exact ih2 _ _ _ _ _ _
      | exact LeO.none _
      | refine LeO.ite ?_ ?_
      | refine LeO.bind ?_ (fun _ => ?_)
theorem splicerref02_Reader_Num.mono : ∀ a0 a1 a2 a3 k, LeO (splicerref02_Reader_Num.f k a0 a1 a2 a3) (splicerref02_Reader_Num.f (k + 1) a0 a1 a2 a3) := by
  intro a0 a1 a2 a3 k
  obtain ⟨ih0, ih1, ih2⟩ := splicerref02_Reader_Num.mono_l k
  unfold splicerref02_Reader_Num.f
  repeat' first
      | (with_reducible exact ih0 _ _ _ _ _)
      | (with_reducible exact ih1 _ _ _ _)
      | (with_reducible exact ih2 _ _ _ _ _ _)
      | (with_reducible exact LeO.refl _)
      | (with_reducible exact LeO.none _)
      | (with_reducible refine LeO.ite ?_ ?_)
      | (with_reducible refine LeO.bind ?_ (fun _ => ?_))
      | exact ih0 _ _ _ _ _
      | exact ih1 _ _ _ _
      | exact ih2 _ _ _ _ _ _
      | exact LeO.none _
      | refine LeO.ite ?_ ?_
      | refine LeO.bind ?_ (fun _ => ?_)
set_option maxHeartbeats 8000000 in
set_option maxRecDepth 100000 in
theorem splicerref02_Reader_Num.calls (k : Nat) (g : Nat) (s0_0 : ByteArray) (s0_1 : Int) (s0_2 : Bool) (a1 : Int) (r1 : Int) (r2 : ByteArray) (r3 : Int) (r4 : Bool) (w0 w : World) (hI : IsS59 w0 w g s0_0 s0_1 s0_2) (hB : Below w0.heap.size w0 w) (h : splicerref02_Reader_Num.f k s0_0 s0_1 s0_2 a1 = some (r1, r2, r3, r4)) :
    Calls Try.prog 52 #[.pointer (some ⟨g, 0, none⟩), .int .i64 a1] w fun e w' => e = .returned (.int .i64 r1) ∧ IsS59 w0 w' g r2 r3 r4 ∧ Below w0.heap.size w0 w' ∧ KeepBut w w' g none := by
  have HI0 := Aside0.mk hI
  have HK := Aside0.mk (KeepBut.refl w g none)
  have HL := Aside0.mk hB.size
  clear hI
  have HW0 := Aside0.mk hB.size
  have HB := Aside0.mk hB
  clear hB
  have H : (if a1 < 1 then (splicerref02_Reader_Num.j0 k a1 true s0_0 s0_1 s0_2) else (splicerref02_Reader_Num.j0 k a1 (decide (a1 > 7)) s0_0 s0_1 s0_2)) = some (r1, r2, r3, r4) := h
  clear h
  have HC3 := Aside0.mk H
  clear H
  go_enter Try.func52, Try.ntmps52
  go_upto_region 1 with (fail)
  go_cut [13] (fun v13 wc => ∃ (kq : Nat) (x13_2 : Bool), v13 = .bool x13_2 ∧ Aside0 (splicerref02_Reader_Num.j0 kq a1 x13_2 s0_0 s0_1 s0_2 = some (r1, r2, r3, r4)) ∧ Aside0 (kq ≤ k) ∧ Aside0 (IsS59 w0 wc g s0_0 s0_1 s0_2) ∧ Aside0 (KeepBut w wc g none) ∧ Aside0 (Below w0.heap.size w0 wc))
  case first =>
    have H := HC3.out
    clear HC3
    by_cases c4 : a1 < 1
    · rw [if_pos c4] at H
      have c4b0 : decide (a1 < 1) = true := decide_eq_true c4
      clear c4
      (first | rw [c4b0] | (simp only [i64_w, i32_w]; rw [c4b0]) | skip)
      have H' := Aside0.mk H
      clear H
      go_wp2
      go_meet
      case rel => exact ⟨_, (true), (by first | rfl | (simp; done) | (simp [*]; done)), H', ⟨by first | omega | exact Nat.le_refl _⟩, ⟨by repeat (first | (with_reducible first | exact HI0.out | apply IsS59.alloc | apply IsS59.drewN | apply IsS59.drew | apply IsS59.set_0 | apply IsS59.set_1 | apply IsS59.set_2) | exact HI0.out)⟩, ⟨by repeat (first | (with_reducible first | exact HK.out | apply KeepBut.set_ | apply keep_drewN | apply keep_drew | apply keep_alloc) | exact HK.out)⟩, ⟨by repeat (first | (with_reducible first | exact HB.out | apply below_alloc | apply pw_below_drewN | apply below_drew1 | refine below_set ?_ (IsS59.ge HI0.out)) | exact HB.out)⟩⟩
    · rw [if_neg c4] at H
      have c4b0 : decide (a1 < 1) = false := decide_eq_false c4
      clear c4
      (first | rw [c4b0] | (simp only [i64_w, i32_w]; rw [c4b0]) | skip)
      have H' := Aside0.mk H
      clear H
      go_wp2
      go_meet
      case rel => exact ⟨_, (decide (a1 > 7)), (by first | rfl | (simp; done) | (simp [*]; done)), H', ⟨by first | omega | exact Nat.le_refl _⟩, ⟨by repeat (first | (with_reducible first | exact HI0.out | apply IsS59.alloc | apply IsS59.drewN | apply IsS59.drew | apply IsS59.set_0 | apply IsS59.set_1 | apply IsS59.set_2) | exact HI0.out)⟩, ⟨by repeat (first | (with_reducible first | exact HK.out | apply KeepBut.set_ | apply keep_drewN | apply keep_drew | apply keep_alloc) | exact HK.out)⟩, ⟨by repeat (first | (with_reducible first | exact HB.out | apply below_alloc | apply pw_below_drewN | apply below_drew1 | refine below_set ?_ (IsS59.ge HI0.out)) | exact HB.out)⟩⟩
  case rest =>
    clear HC3
    try clear p2
    try clear c4
    try clear c4b0
    obtain ⟨kq, x13_2, rfl, HA, HJ2, HI0, HK, HB⟩ := hcut
    cases kq with
    | zero => exact absurd HA.out (by simp [splicerref02_Reader_Num.j0])
    | succ kj2 =>
      have H := HA.out
      clear HA
      simp only [splicerref02_Reader_Num.j0] at H
      have HC5 := Aside0.mk H
      clear H
      go_upto_if 13 with (fail)
      go_cut [] (fun wc => ∃ (kq : Nat) (x1002_4 : Bool), Aside0 (splicerref02_Reader_Num.j1 kq a1 s0_0 s0_1 x1002_4 = some (r1, r2, r3, r4)) ∧ Aside0 (kq ≤ kj2) ∧ Aside0 (IsS59 w0 wc g s0_0 s0_1 x1002_4) ∧ Aside0 (KeepBut w wc g none) ∧ Aside0 (Below w0.heap.size w0 wc))
      case first =>
        have H := HC5.out
        clear HC5
        by_cases c6 : x13_2 = true
        · subst c6
          have H1 : (splicerref02_Reader_Num.j1 kj2 a1 s0_0 s0_1 true) = some (r1, r2, r3, r4) := by rw [if_pos rfl] at H; exact H
          clear H
          have H := H1
          clear H1
          have H' := Aside0.mk H
          clear H
          obtain ⟨HGz7, hgz7⟩ := HI0.out
          have hcz7_0 := cellS59_0 HGz7
          have hcz7_1 := cellS59_1 HGz7
          have hcz7_2 := cellS59_2 HGz7
          have hfz7_0 := blk_frozen HGz7 0
          have hfz7_1 := blk_frozen HGz7 1
          have hfz7_2 := blk_frozen HGz7 2
          clear HGz7 hgz7
          go_wp2
          go_meet
          case rel => exact ⟨_, (true), H', ⟨by have := HJ2.out; first | omega | exact Nat.le_refl _⟩, ⟨by repeat (first | (with_reducible first | exact HI0.out | apply IsS59.alloc | apply IsS59.drewN | apply IsS59.drew | apply IsS59.set_0 | apply IsS59.set_1 | apply IsS59.set_2) | exact HI0.out)⟩, ⟨by repeat (first | (with_reducible first | exact HK.out | apply KeepBut.set_ | apply keep_drewN | apply keep_drew | apply keep_alloc) | exact HK.out)⟩, ⟨by repeat (first | (with_reducible first | exact HB.out | apply below_alloc | apply pw_below_drewN | apply below_drew1 | refine below_set ?_ (IsS59.ge HI0.out)) | exact HB.out)⟩⟩
        · replace c6 := Bool.eq_false_iff.mpr c6
          subst c6
          have H1 : (splicerref02_Reader_Num.j1 kj2 a1 s0_0 s0_1 s0_2) = some (r1, r2, r3, r4) := by rw [if_neg (show ¬ (false = true) by decide)] at H; exact H
          clear H
          have H := H1
          clear H1
          have H' := Aside0.mk H
          clear H
          go_wp2
          go_meet
          case rel => exact ⟨_, (s0_2), H', ⟨by have := HJ2.out; first | omega | exact Nat.le_refl _⟩, ⟨by repeat (first | (with_reducible first | exact HI0.out | apply IsS59.alloc | apply IsS59.drewN | apply IsS59.drew | apply IsS59.set_0 | apply IsS59.set_1 | apply IsS59.set_2) | exact HI0.out)⟩, ⟨by repeat (first | (with_reducible first | exact HK.out | apply KeepBut.set_ | apply keep_drewN | apply keep_drew | apply keep_alloc) | exact HK.out)⟩, ⟨by repeat (first | (with_reducible first | exact HB.out | apply below_alloc | apply pw_below_drewN | apply below_drew1 | refine below_set ?_ (IsS59.ge HI0.out)) | exact HB.out)⟩⟩
      case rest =>
        clear HC5
        try clear p2
        try clear c4
        try clear c4b0
        try clear c5
        try clear c6
        try clear hcz7_0
        try clear hcz7_1
        try clear hcz7_2
        try clear hfz7_0
        try clear hfz7_1
        try clear hfz7_2
        try clear p2
        obtain ⟨kq, x1002_4, HA, HJ4, HI0, HK, HB⟩ := hcut
        cases kq with
        | zero => exact absurd HA.out (by simp [splicerref02_Reader_Num.j1])
        | succ kj4 =>
          have H := HA.out
          clear HA
          simp only [splicerref02_Reader_Num.j1] at H
          replace H := Option.bind_eq_some_iff.mp H
          obtain ⟨⟨t161, t162, t163, t164⟩, A80, H⟩ := H
          replace H : (splicerref02_Reader_Num.l0 kj4 t161 0 0 t162 t163 t164) = some (r1, r2, r3, r4) := H
          have A8 := Aside0.mk A80
          clear A80
          have H' := Aside0.mk H
          clear H
          go_wp2_with (first | ((with_reducible refine gate_callee (f := 62) rfl ?_); refine goesL_ (some 19) rfl rfl Try.func62 (by kernel_rfl) rfl #[.pointer (some ⟨g, 0, none⟩), .int .i64 a1] rfl (by (try simp only [List.map_toArray, List.map_cons, List.map_nil]); first | done | rfl | (simp only [List.length_drop, List.length_take]; rfl)) ?_; (with_reducible refine (splicerref02_Reader_Text.calls g s0_0 s0_1 x1002_4 a1 t161 t162 t163 t164 w0 _ ?side1 ?side2 A8.out).mono ?_); (case side1 => repeat (first | (with_reducible first | exact HI0.out | apply IsS59.alloc | apply IsS59.drewN | apply IsS59.drew | apply IsS59.set_0 | apply IsS59.set_1 | apply IsS59.set_2) | exact HI0.out)); (case side2 => repeat (first | (with_reducible first | exact HB.out | apply below_alloc | apply pw_below_drewN | apply below_drew1 | refine below_set ?_ (IsS59.ge HI0.out)) | exact HB.out)); rintro e w9 ⟨rfl, hi, hb, hk⟩; refine ⟨_, rfl, ?_⟩; have n0_ := Aside0.mk (KeepBut.trans (by repeat (first | (with_reducible first | exact HK.out | apply KeepBut.set_ | apply keep_drewN | apply keep_drew | apply keep_alloc) | exact HK.out)) hk (.inl rfl)); have n1_ := Aside0.mk (hb); have n2_ := Aside0.mk (hi); clear HK; clear HB; clear HI0; have HK := n0_; have HB := n1_; have HI0 := n2_; clear n0_ n1_ n2_; (try clear hb); (try clear hb2); (try clear hk); (try clear hi)))
          go_loopg [6, 7] kj4 (fun kq v6 v7 w' => ∃ (x6_3 : Int) (x7_3 : Int), v6 = .int .i64 x6_3 ∧ v7 = .int .i64 x7_3 ∧ Aside0 (splicerref02_Reader_Num.l0 kq t161 x6_3 x7_3 t162 t163 t164 = some (r1, r2, r3, r4)) ∧ Aside0 (kq ≤ kj4) ∧ Aside0 (IsS59 w0 w' g t162 t163 t164) ∧ Aside0 (KeepBut w w' g none) ∧ Aside0 (Below w0.heap.size w0 w'))
          case atStart => exact ⟨(0), (0), (by first | rfl | (simp; done) | (simp [*]; done)), (by first | rfl | (simp; done) | (simp [*]; done)), H', ⟨Nat.le_refl _⟩, ⟨by repeat (first | (with_reducible first | exact HI0.out | apply IsS59.alloc | apply IsS59.drewN | apply IsS59.drew | apply IsS59.set_0 | apply IsS59.set_1 | apply IsS59.set_2) | exact HI0.out)⟩, ⟨by repeat (first | (with_reducible first | exact HK.out | apply KeepBut.set_ | apply keep_drewN | apply keep_drew | apply keep_alloc) | exact HK.out)⟩, ⟨by repeat (first | (with_reducible first | exact HB.out | apply below_alloc | apply pw_below_drewN | apply below_drew1 | refine below_set ?_ (IsS59.ge HI0.out)) | exact HB.out)⟩⟩
          case round =>
            clear H'
            try clear p2
            try clear c4
            try clear c4b0
            try clear c5
            try clear c6
            try clear hcz7_0
            try clear hcz7_1
            try clear hcz7_2
            try clear hfz7_0
            try clear hfz7_1
            try clear hfz7_2
            try clear p2
            obtain ⟨x6_3, x7_3, rfl, rfl, HA, HK3, HI0, HK, HB⟩ := hrel
            cases gk with
            | zero => exact absurd HA.out (by simp [splicerref02_Reader_Num.l0])
            | succ k3 =>
              have H := HA.out
              clear HA
              simp only [splicerref02_Reader_Num.l0] at H
              by_cases c10 : x7_3 < (t161.size : Int)
              · rw [if_pos c10] at H
                have c10b0 : decide (x7_3 < (t161.size : Int)) = true := decide_eq_true c10
                clear c10
                by_cases c11 : 0 ≤ x7_3
                · rw [if_pos c11] at H
                  have c11b0 : decide (0 ≤ x7_3) = true := decide_eq_true c11
                  clear c11
                  have H' := Aside0.mk H
                  clear H
                  have p12 : 0 ≤ (x7_3 : Int) := of_decide_eq_true (by first | (with_reducible assumption) | assumption)
                  have q12 : x7_3 < (t161.size : Int) := of_decide_eq_true (by first | (with_reducible assumption) | assumption)
                  have hx12 := bt_at t161 x7_3
                  replace p12 := eq_true p12
                  replace q12 := eq_true q12
                  go_wp2
                  go_roundg k3
                  case measure => have := HJ2.out; have := HJ4.out; have := HK3.out; omega
                  case rel => exact ⟨(wrap64 ((wrap64 (x6_3 * 256)) + (wrap64 (bt t161 x7_3)))), (wrap64 (x7_3 + 1)), (by first | rfl | (simp; done) | (simp [*]; done)), (by first | rfl | (simp; done) | (simp [*]; done)), H', ⟨by have := HJ2.out; have := HJ4.out; have := HK3.out; omega⟩, ⟨by repeat (first | (with_reducible first | exact HI0.out | apply IsS59.alloc | apply IsS59.drewN | apply IsS59.drew | apply IsS59.set_0 | apply IsS59.set_1 | apply IsS59.set_2) | exact HI0.out)⟩, ⟨by repeat (first | (with_reducible first | exact HK.out | apply KeepBut.set_ | apply keep_drewN | apply keep_drew | apply keep_alloc) | exact HK.out)⟩, ⟨by repeat (first | (with_reducible first | exact HB.out | apply below_alloc | apply pw_below_drewN | apply below_drew1 | refine below_set ?_ (IsS59.ge HI0.out)) | exact HB.out)⟩⟩
                · rw [if_neg c11] at H
                  exact absurd H (by simp)
              · rw [if_neg c10] at H
                have c10b0 : decide (x7_3 < (t161.size : Int)) = false := decide_eq_false c10
                clear c10
                simp only [Option.some.injEq, Prod.mk.injEq] at H
                obtain ⟨rfl, rfl, rfl, rfl⟩ := H
                go_wp2
                go_ret
                exact ⟨by first | rfl | (simp [errW_none, errW_some] <;> rfl) | (simp [*, errW_none, errW_some] <;> rfl), by repeat (first | (with_reducible first | exact HI0.out | apply IsS59.alloc | apply IsS59.drewN | apply IsS59.drew | apply IsS59.set_0 | apply IsS59.set_1 | apply IsS59.set_2) | exact HI0.out), by repeat (first | (with_reducible first | exact HB.out | apply below_alloc | apply pw_below_drewN | apply below_drew1 | refine below_set ?_ (IsS59.ge HI0.out)) | exact HB.out), by repeat (first | (with_reducible first | exact HK.out | apply KeepBut.set_ | apply keep_drewN | apply keep_drew | apply keep_alloc) | exact HK.out)⟩

/-! ### splicerref29_Get: function 19 -/
section
open OctW HdrW
def beAt (L : List UInt8) (o n : Nat) : Int := ((beVal ((L.drop o).take n) : Nat) : Int)
def hval (L : List UInt8) (i : Fin 7) : Int := beAt L ([4, 5, 6, 9, 11, 13, 17][i]) (fsz i)
def splicerref29_Get.f (k : Nat) (s : ByteArray) : Option Head8 :=
  if s.size ≤ 100000 then
    (if (s.size : Int) < 25 then some (hnone 2) else
      (if (s.extract 0 4).toList = ([83, 80, 76, 49] : List UInt8) then
        (splicerref03_Sum.f k (s.extract 0 21)).bind fun sm => (splicerref02_Num.f k (wrap64 sm) 4).bind fun nb =>
        (if (s.extract 21 25).toList = nb.toList then
          (splicerref29_Right.f (hval s.data.toList 0) (hval s.data.toList 2) (hval s.data.toList 1) (hval s.data.toList 3) (hval s.data.toList 4) (hval s.data.toList 5) (hval s.data.toList 6)).bind fun t =>
          (if t = true then some (hout (hval s.data.toList) 0) else some (hnone 4))
        else some (hnone 5))
      else some (hnone 4)))
  else none
theorem splicerref29_Get.mono : ∀ a1 k, LeO (splicerref29_Get.f k a1) (splicerref29_Get.f (k + 1) a1) := by
  intro a1 k r h
  unfold splicerref29_Get.f at h ⊢
  by_cases c0 : a1.size ≤ 100000
  · rw [if_pos c0] at h ⊢
    by_cases c1 : (a1.size : Int) < 25
    · rw [if_pos c1] at h ⊢; exact h
    · rw [if_neg c1] at h ⊢
      by_cases c2 : (a1.extract 0 4).toList = ([83, 80, 76, 49] : List UInt8)
      · rw [if_pos c2] at h ⊢
        obtain ⟨sm, hs1, h⟩ := Option.bind_eq_some_iff.1 h
        rw [splicerref03_Sum.mono _ _ _ hs1]
        obtain ⟨nb, hn1, h⟩ := Option.bind_eq_some_iff.1 h
        simp only [Option.bind_some]
        rw [splicerref02_Num.mono _ _ _ _ hn1]
        simp only [Option.bind_some]
        exact h
      · rw [if_neg c2] at h ⊢; exact h
  · rw [if_neg c0] at h; cases h
theorem rh_w (x y : Nat) (hx : x < 281474976710656) (hy : y < 256) : wrap64 (wrap64 ((x : Int) * 256) + wrap64 (y : Int)) = ((x * 256 + y : Nat) : Int) := by
  have e1 : wrap64 ((x : Int) * 256) = (x : Int) * 256 := by unfold wrap64; omega
  have e2 : wrap64 (y : Int) = (y : Int) := by unfold wrap64; omega
  rw [e1, e2]
  unfold wrap64; omega
theorem rh_bt (t : ByteArray) (i : Nat) (h : i < t.data.toList.length) : bt t i = ((t.data.toList[i]).toNat : Int) := by
  have h' : i < t.size := by simpa using h
  have := bt_at t (i : Int) (by rw [Int.toNat_natCast]; exact h')
  rw [← this]
  rfl
theorem rh_l (t : ByteArray) (x1 : ByteArray) (x2 : Int) (x3 : Bool) (ht : t.size ≤ 7) (d : Nat) : ∀ i fuel, i + d = t.size → d < fuel → splicerref02_Reader_Num.l0 fuel t ((beVal (t.data.toList.take i) : Nat) : Int) (i : Int) x1 x2 x3 = some (((beVal t.data.toList : Nat) : Int), x1, x2, x3) := by
  induction d with
  | zero =>
    intro i fuel hi hf
    obtain ⟨fuel, rfl⟩ : ∃ m, fuel = m + 1 := ⟨fuel - 1, by omega⟩
    simp only [splicerref02_Reader_Num.l0]
    rw [if_neg (by omega), List.take_of_length_le (by simp; omega)]
  | succ d ih =>
    intro i fuel hi hf
    obtain ⟨fuel, rfl⟩ : ∃ m, fuel = m + 1 := ⟨fuel - 1, by omega⟩
    simp only [splicerref02_Reader_Num.l0]
    have hlt : i < t.data.toList.length := by simp; omega
    have h6 : beVal (t.data.toList.take i) < 281474976710656 := beVal_lt7 _ (by rw [List.length_take]; omega)
    have hb := rh_bt t i hlt
    have hbl := UInt8.toNat_lt (t.data.toList[i])
    have e : wrap64 (wrap64 (((beVal (t.data.toList.take i) : Nat) : Int) * 256) + wrap64 (bt t i)) = ((beVal (t.data.toList.take (i + 1)) : Nat) : Int) := by
      rw [List.take_succ_eq_append_getElem hlt, beVal_snoc, hb]
      exact rh_w _ _ h6 hbl
    clear h6 hb hbl
    rw [if_pos (by omega), if_pos (by omega), e, show wrap64 ((i : Int) + 1) = ((i + 1 : Nat) : Int) by unfold wrap64; omega]
    exact ih (i + 1) fuel (by omega) (by omega)
theorem rh_text (s : ByteArray) (o n : Nat) (h : o + n ≤ s.size) (hs : s.size ≤ 100000) : splicerref02_Reader_Text.f s (o : Int) false (n : Int) = some (s.extract o (o + n), s, ((o + n : Nat) : Int), false) := by
  have hw : wrap64 ((s.size : Int) - o) = ((s.size - o : Nat) : Int) := by unfold wrap64; omega
  have e1 : wrap64 ((o : Int) + (n : Int)) = ((o + n : Nat) : Int) := by unfold wrap64; omega
  have e2 : wrap64 (((o + n : Nat) : Int) - (n : Int)) = (o : Int) := by unfold wrap64; omega
  unfold splicerref02_Reader_Text.f
  simp only [if_neg (show ¬ (false = true) by decide)]
  rw [if_neg (by omega), hw, if_neg (by omega), e1, e2, if_pos (by omega), if_pos (by omega), if_pos (by omega), Int.toNat_natCast, Int.toNat_natCast]
theorem rh_num (s : ByteArray) (o n : Nat) (hn0 : 1 ≤ n) (hn : n ≤ 7) (h : o + n ≤ s.size) (hs : s.size ≤ 100000) : splicerref02_Reader_Num.f 40 s (o : Int) false (n : Int) = some (beAt s.data.toList o n, s, ((o + n : Nat) : Int), false) := by
  have e : (s.extract o (o + n)).data.toList = (s.data.toList.drop o).take n := by
    simp only [ByteArray.data_extract, Array.toList_extract, List.extract_eq_take_drop]
    congr 1; omega
  have hsz : (s.extract o (o + n)).size = n := by rw [ByteArray.size_extract]; omega
  unfold splicerref02_Reader_Num.f
  rw [if_neg (by omega), decide_eq_false (by omega)]
  simp only [splicerref02_Reader_Num.j0, splicerref02_Reader_Num.j1]
  rw [if_neg (by decide), rh_text s o n h hs, Option.bind_some]
  have := rh_l (s.extract o (o + n)) s ((o + n : Nat) : Int) false (by omega) n 0 38 (by omega) (by omega)
  rw [e] at this
  exact this
theorem rh_keepR {w0 W W1 : World} {g g2 : Nat} {a : ByteArray} {b : Int} {c : Bool} (h : IsS59 w0 W g2 a b c) (hk : KeepBut W W1 g none) (hne : g2 ≠ g) : IsS59 w0 W1 g2 a b c := ⟨by rw [hk.2 g2 (blk_lt h.1) hne (by simp)]; exact h.1, h.2⟩
def RHGet5.T5 : Bool × List (List Nat × List Nat) := (true, [([], []), ([0], [0]), ([], []), ([2], [2]), ([3], [3]), ([4], [4]), ([5, 4], [5]), ([1, 6], [1, 6])])
def RHGet5.B5 : List Nat := [0, 1, 0, 4, 12, 28, 60, 127]
theorem RHGet5.tab5 : rtab .any (opsOf Try.f19 5) = RHGet5.T5 := by kernel_rfl
theorem RHGet5.bits5 : waitsOk RHGet5.T5.2 RHGet5.B5 = true := by kernel_rfl
/- 0:move>16; 1:slice>17; 2:move>18; 3:slice>19; 4:call>20; 5:convert>21; 6:call>22; 7:binOp>23 -/
set_option maxHeartbeats 4000000 in
set_option maxRecDepth 100000 in
theorem rh_run (k : Nat) (s : ByteArray) (R : Head8) (w : World) (hs0 : 25 ≤ s.size) (hs : s.size ≤ 100000) (hmg : (s.extract 0 4).toList = ([83, 80, 76, 49] : List UInt8))
    (sm : Int) (hsumf : splicerref03_Sum.f k (s.extract 0 21) = some sm) (nb : ByteArray) (hnumf : splicerref02_Num.f k (wrap64 sm) 4 = some nb) (t : Bool)
    (v0 v1 v2 v3 v4 v5 v6 : Int) (hv0 : v0 = beAt s.data.toList 4 1) (hv1 : v1 = beAt s.data.toList 5 1) (hv2 : v2 = beAt s.data.toList 6 3) (hv3 : v3 = beAt s.data.toList 9 2) (hv4 : v4 = beAt s.data.toList 11 2) (hv5 : v5 = beAt s.data.toList 13 4) (hv6 : v6 = beAt s.data.toList 17 4)
    (hT : splicerref29_Right.f v0 v2 v1 v3 v4 v5 v6 = some t)
    (hres : ((s.extract 21 25).toList ≠ nb.toList ∧ R = hnone 5) ∨ ((s.extract 21 25).toList = nb.toList ∧ ((t = true ∧ R = (v0, v2, v1, v3, v4, v5, v6, 0)) ∨ (t = false ∧ R = hnone 4)))) :
    Calls Try.prog 19 #[.string s] w fun e w' => e = .returned (.tuple #[.agg #[.int .i64 R.1, .int .i64 R.2.1, .int .i64 R.2.2.1, .int .i64 R.2.2.2.1, .int .i64 R.2.2.2.2.1, .int .i64 R.2.2.2.2.2.1], .int .i64 R.2.2.2.2.2.2.1, .int .i64 R.2.2.2.2.2.2.2]) ∧ Below w.heap.size w w' := by
  have hu := Try.underlying23
  have HRES := Aside0.mk hres
  have HT := Aside0.mk hT
  have HMG := Aside0.mk hmg
  clear hres hT hmg
  have d3 : decide ((s.size : Int) < 25) = false := decide_eq_false (by omega)
  have q1 : ((25 : Int) ≤ (s.size : Int)) = True := eq_true (by omega)
  have q2 : ((21 : Int) ≤ (s.size : Int)) = True := eq_true (by omega)
  have q3 : ((4 : Int) ≤ (s.size : Int)) = True := eq_true (by omega)
  have r0 := rh_num s 4 1 (by omega) (by omega) (by omega) hs
  have r1 := rh_num s 5 1 (by omega) (by omega) (by omega) hs
  have r2 := rh_num s 6 3 (by omega) (by omega) (by omega) hs
  have r3 := rh_num s 9 2 (by omega) (by omega) (by omega) hs
  have r4 := rh_num s 11 2 (by omega) (by omega) (by omega) hs
  have r5 := rh_num s 13 4 (by omega) (by omega) (by omega) hs
  have r6 := rh_num s 17 4 (by omega) (by omega) (by omega) hs
  rw [← hv0] at r0
  rw [← hv1] at r1
  rw [← hv2] at r2
  rw [← hv3] at r3
  rw [← hv4] at r4
  rw [← hv5] at r5
  rw [← hv6] at r6
  clear hv0 hv1 hv2 hv3 hv4 hv5 hv6
  have hmgb : ((s.extract 0 4).toList == ([83, 80, 76, 49] : List UInt8)) = true := beq_iff_eq.mpr HMG.out
  go_enter Try.func19, Try.ntmps19
  go_upto_region 5 with (fail)
  have hgo1 := blk_new w (.cells #[.int .i64 0, .int .i64 0, .int .i64 0, .int .i64 0, .int .i64 0, .int .i64 0] 23)
  refine start_ (n := 8) (S := fun _ => True) (ds := []) #[false, false, false, false, false, false, false, false] (by kernel_rfl) rfl rfl trivial (fun hHeld => ?_); refine with_tabW RHGet5.tab5 RHGet5.bits5 (fun HT_ HW_ => ?_)
  refine pure_ (i := 0) (N := (some 16)) (v := ?_) (a' := ?_) #[true, false, false, false, false, false, false, false] rfl rfl (any_of HT_.out (by kernel_rfl)) (fun _ _ _ h => h) (Or.inl ⟨by rfl, ?_⟩) ?_ ?_
  rotate_left
  · intro w'
    go_simp
    with_reducible rfl
  rotate_left
  · simp only [Act.put, List.setIfInBounds_toArray, List.set_cons_zero, List.set_cons_succ, i64_w, i32_w]
    rfl
  refine pure_ (i := 1) (N := (some 17)) (v := ?_) (a' := ?_) #[true, true, false, false, false, false, false, false] rfl rfl (any_of HT_.out (by kernel_rfl)) (fun _ _ _ h => h) (Or.inl ⟨by rfl, ?_⟩) ?_ ?_
  rotate_left
  · intro w'
    go_simp
    with_reducible rfl
  rotate_left
  · simp only [Act.put, List.setIfInBounds_toArray, List.set_cons_zero, List.set_cons_succ, i64_w, i32_w]
    rfl
  refine pure_ (i := 2) (N := (some 18)) (v := ?_) (a' := ?_) #[true, true, true, false, false, false, false, false] rfl rfl (any_of HT_.out (by kernel_rfl)) (fun _ _ _ h => h) (Or.inl ⟨by rfl, ?_⟩) ?_ ?_
  rotate_left
  · intro w'
    go_simp
    with_reducible rfl
  rotate_left
  · simp only [Act.put, List.setIfInBounds_toArray, List.set_cons_zero, List.set_cons_succ, i64_w, i32_w]
    rfl
  refine pure_ (i := 3) (N := (some 19)) (v := ?_) (a' := ?_) #[true, true, true, true, false, false, false, false] rfl rfl (any_of HT_.out (by kernel_rfl)) (fun _ _ _ h => h) (Or.inl ⟨by rfl, ?_⟩) ?_ ?_
  rotate_left
  · intro w'
    go_simp
    with_reducible rfl
  rotate_left
  · simp only [Act.put, List.setIfInBounds_toArray, List.set_cons_zero, List.set_cons_succ, i64_w, i32_w]
    rfl
  refine one_ (i := 4) (N := (some 20)) #[true, true, true, true, true, false, false, false] rfl rfl (one_of HT_.out (by kernel_rfl)) (by decide) (fun K hK => ?_)
  refine goes_ Try.func48 (by kernel_rfl) rfl #[.string (s.extract 0 21)] (by rfl) rfl rfl (by (try simp only [List.map_toArray, List.map_cons, List.map_nil]); first | done | rfl) ?_
  refine (splicerref03_Sum.calls _ _ _ _ hsumf).mono ?_
  rintro e w2 ⟨rfl, ⟨n2, rfl⟩⟩
  refine ⟨_, rfl, ?_⟩
  refine hK.out _ _ trivial (fun hHeld => ?_)
  clear hK K
  refine norm_ (a' := ?_) ?_ ?_
  rotate_left
  · show Act.put _ (some 20) _ = _
    simp only [Act.put, List.setIfInBounds_toArray, List.set_cons_zero, List.set_cons_succ, i64_w, i32_w]
    rfl
  refine pure_ (i := 5) (N := (some 21)) (v := ?_) (a' := ?_) #[true, true, true, true, true, true, false, false] rfl rfl (any_of HT_.out (by kernel_rfl)) (fun _ _ _ h => h) (Or.inl ⟨by rfl, ?_⟩) ?_ ?_
  rotate_left
  · intro w'
    go_simp
    with_reducible rfl
  rotate_left
  · simp only [Act.put, List.setIfInBounds_toArray, List.set_cons_zero, List.set_cons_succ, i64_w, i32_w]
    rfl
  refine one_ (i := 6) (N := (some 22)) #[true, true, true, true, true, true, true, false] rfl rfl (one_of HT_.out (by kernel_rfl)) (by decide) (fun K hK => ?_)
  refine goes_ Try.func47 (by kernel_rfl) rfl #[.int .i64 (wrap64 sm), .int .i64 4] (by rfl) rfl rfl (by (try simp only [List.map_toArray, List.map_cons, List.map_nil]); first | done | rfl) ?_
  refine (splicerref02_Num.calls k _ _ _ _ hnumf).mono ?_
  rintro e w3 ⟨rfl, hb3⟩
  refine ⟨_, rfl, ?_⟩
  refine hK.out _ _ trivial (fun hHeld => ?_)
  clear hK K
  refine norm_ (a' := ?_) ?_ ?_
  rotate_left
  · show Act.put _ (some 22) _ = _
    simp only [Act.put, List.setIfInBounds_toArray, List.set_cons_zero, List.set_cons_succ, i64_w, i32_w]
    rfl
  refine pure_ (i := 7) (N := (some 23)) (v := ?_) (a' := ?_) #[true, true, true, true, true, true, true, true] rfl rfl (any_of HT_.out (by kernel_rfl)) (fun _ _ _ h => h) (Or.inl ⟨by rfl, ?_⟩) ?_ ?_
  rotate_left
  · intro w'
    go_simp
    with_reducible rfl
  rotate_left
  · simp only [Act.put, List.setIfInBounds_toArray, List.set_cons_zero, List.set_cons_succ, i64_w, i32_w]
    rfl
  refine done_ (done_of HT_.out (by kernel_rfl)) ?_
  have hb2 : Below w.heap.size w ((w.alloc (.cells #[.int .i64 0, .int .i64 0, .int .i64 0, .int .i64 0, .int .i64 0, .int .i64 0] 23)).drew.drewN n2) := pw_below_drewN (below_drew (below_alloc (Below.refl w.heap.size w) (.cells #[.int .i64 0, .int .i64 0, .int .i64 0, .int .i64 0, .int .i64 0, .int .i64 0] 23))) n2
  have hB3 : Below w.heap.size w w3 := below_step hb2 hb3
  have ho3 : w3.heap[w.heap.size]? = some (.cells #[.int .i64 0, .int .i64 0, .int .i64 0, .int .i64 0, .int .i64 0, .int .i64 0] 23 (0, 0)) := blk_below (w := (w.alloc (.cells #[.int .i64 0, .int .i64 0, .int .i64 0, .int .i64 0, .int .i64 0, .int .i64 0] 23)).drew.drewN n2) hgo1 hb3
  obtain ⟨go, hgo⟩ : ∃ go, go = w.heap.size := ⟨_, rfl⟩
  rw [← hgo] at ho3 ⊢
  have hob : w.heap.size ≤ go := by omega
  clear hb3 hgo hgo1
  have z0 : w3.cell? ⟨go, 0, none⟩ = some (.int .i64 0) := (blk_cell ho3 0).trans rfl
  have fz0 := blk_frozen ho3 0
  have z1 : w3.cell? ⟨go, 1, none⟩ = some (.int .i64 0) := (blk_cell ho3 1).trans rfl
  have fz1 := blk_frozen ho3 1
  have z2 : w3.cell? ⟨go, 2, none⟩ = some (.int .i64 0) := (blk_cell ho3 2).trans rfl
  have fz2 := blk_frozen ho3 2
  have z3 : w3.cell? ⟨go, 3, none⟩ = some (.int .i64 0) := (blk_cell ho3 3).trans rfl
  have fz3 := blk_frozen ho3 3
  have z4 : w3.cell? ⟨go, 4, none⟩ = some (.int .i64 0) := (blk_cell ho3 4).trans rfl
  have fz4 := blk_frozen ho3 4
  have z5 : w3.cell? ⟨go, 5, none⟩ = some (.int .i64 0) := (blk_cell ho3 5).trans rfl
  have fz5 := blk_frozen ho3 5
  go_upto_region 8 with (fail)
  · have hne : ¬ (s.extract 21 25).toList = nb.toList := by
      have h' : (!((s.extract 21 25).toList == nb.toList)) = true := by assumption
      simpa using h'
    have hR : R = hnone 5 := by
      rcases HRES.out with ⟨_, h⟩ | ⟨h, _⟩
      · exact h
      · exact absurd h hne
    subst hR
    have hgo9 := st6_blk ho3 (.int .i64 0) (.int .i64 0) (.int .i64 0) (.int .i64 0) (.int .i64 0) (.int .i64 0)
    have hB9 := st6_below hB3 hob (.int .i64 0) (.int .i64 0) (.int .i64 0) (.int .i64 0) (.int .i64 0) (.int .i64 0)
    unfold st6 at hgo9
    refine bodyPost_ret (results_ctt rfl _ _ go 23 _ (0, 0) _ rfl hgo9 hu rfl (by kernel_rfl)) rfl ?_
    exact ⟨rfl, hB9⟩
  · have heq : (s.extract 21 25).toList = nb.toList := by
      have h' : (!((s.extract 21 25).toList == nb.toList)) = false := by assumption
      simpa using h'
    have HR2 : Aside0 ((t = true ∧ R = (v0, v2, v1, v3, v4, v5, v6, 0)) ∨ (t = false ∧ R = hnone 4)) := ⟨by
      rcases HRES.out with ⟨h, _⟩ | ⟨_, h⟩
      · exact absurd heq h
      · exact h⟩
    clear HRES z0 z1 z2 z3 z4 z5 fz0 fz1 fz2 fz3 fz4 fz5
    have hJ := IsS59.new w w3 s 4 false hB3
    have hB4 := below_alloc hB3 (.cells #[.string s, .int .i64 4, .bool false] 59)
    have ho4 := blk_alloc ho3 (.cells #[.string s, .int .i64 4, .bool false] 59)
    have hne1 : go ≠ w3.heap.size := by have := blk_lt ho3; omega
    clear ho3 hB3
    generalize w3.alloc (.cells #[.string s, .int .i64 4, .bool false] 59) = w4 at *
    generalize w3.heap.size = g at *
    have hglt := hJ.lt
    go_upto_region 9 with (first
      | (go_at_call 52; refine (splicerref02_Reader_Num.calls 40 g _ _ _ _ _ _ _ _ w _ hJ hB4 r0).mono ?_; rintro e w5 ⟨rfl, hJ5, hB5, hk5⟩)
      | ((with_reducible refine gate_dst (N := 6) rfl ?_); refine box_event ?hg (N := 6) ?hd (cs := #[.int .i64 0, .int .i64 0, .int .i64 0, .int .i64 0, .int .i64 0, .int .i64 0]) (t := 23) ?hr ?_; (case hd => rfl); (case hg => rfl); (case hr => first | (go_simp; done) | (go_simp; rfl)); intro gh hgh w6 hh6 hb6; have z0 : w6.cell? ⟨gh, 0, none⟩ = some (.int .i64 0) := (blk_cell hh6 0).trans rfl; have fz0 := blk_frozen hh6 0; have z1 : w6.cell? ⟨gh, 1, none⟩ = some (.int .i64 0) := (blk_cell hh6 1).trans rfl; have fz1 := blk_frozen hh6 1; have z2 : w6.cell? ⟨gh, 2, none⟩ = some (.int .i64 0) := (blk_cell hh6 2).trans rfl; have fz2 := blk_frozen hh6 2; have z3 : w6.cell? ⟨gh, 3, none⟩ = some (.int .i64 0) := (blk_cell hh6 3).trans rfl; have fz3 := blk_frozen hh6 3; have z4 : w6.cell? ⟨gh, 4, none⟩ = some (.int .i64 0) := (blk_cell hh6 4).trans rfl; have fz4 := blk_frozen hh6 4; have z5 : w6.cell? ⟨gh, 5, none⟩ = some (.int .i64 0) := (blk_cell hh6 5).trans rfl; have fz5 := blk_frozen hh6 5; have HGH := Lib.hid hgh; clear hgh))
    have ho5 := (hk5.2 go (blk_lt ho4) hne1 (by simp)).trans ho4
    have ho6 := blk_below ho5 hb6
    have hJ6 := hJ5.below hb6
    have hB6 := below_step hB5 hb6
    have hne2 : go ≠ gh := by have := blk_lt ho5; have := HGH.out; omega
    have hne3 : g ≠ gh := by have := hJ5.lt; have := HGH.out; omega
    have hhb : w.heap.size ≤ gh := by have := HGH.out; have := hB5.size; omega
    have hh7 := st6_blk hh6 (.int .i64 v0) (.int .i64 0) (.int .i64 0) (.int .i64 0) (.int .i64 0) (.int .i64 0)
    have hk7 := st6_keep w6 gh (.int .i64 v0) (.int .i64 0) (.int .i64 0) (.int .i64 0) (.int .i64 0) (.int .i64 0)
    have hB7 := st6_below hB6 hhb (.int .i64 v0) (.int .i64 0) (.int .i64 0) (.int .i64 0) (.int .i64 0) (.int .i64 0)
    have ho7 := (hk7.2 go (blk_lt ho6) hne2 (by simp)).trans ho6
    have hJ7 := rh_keepR hJ6 hk7 hne3
    unfold st6 at hh7 hB7 ho7 hJ7
    clear z0 z1 z2 z3 z4 z5 fz0 fz1 fz2 fz3 fz4 fz5 hk5 hb6 hh6 hk7 ho4 ho5 ho6 hJ hJ5 hJ6 hB4 hB5 hB6
    generalize ((((((w6.setCell ⟨gh, 0, none⟩ (.int .i64 v0)).setCell ⟨gh, 1, none⟩ (.int .i64 0)).setCell ⟨gh, 2, none⟩ (.int .i64 0)).setCell ⟨gh, 3, none⟩ (.int .i64 0)).setCell ⟨gh, 4, none⟩ (.int .i64 0)).setCell ⟨gh, 5, none⟩ (.int .i64 0)) = w7 at *
    go_upto_region 10 with (go_at_call 52; refine (splicerref02_Reader_Num.calls 40 g _ _ _ _ _ _ _ _ w _ hJ7 hB7 r1).mono ?_; rintro e w7a ⟨rfl, hJa, hBa, hka⟩; have hha := (hka.2 gh (blk_lt hh7) hne3.symm (by simp)).trans hh7; have zz : w7a.cell? ⟨gh, 2, none⟩ = some (.int .i64 0) := (blk_cell hha 2).trans rfl; have fzz := blk_frozen hha 2)
    have hk8 := (KeepBut.refl w7a gh none).set_ 2 (.int .i64 v1)
    have hh8 := blk_put (cs := #[.int .i64 v0, .int .i64 0, .int .i64 0, .int .i64 0, .int .i64 0, .int .i64 0]) hha 2 (.int .i64 v1) rfl
    have hB8 := below_set (j := 2) (v := .int .i64 v1) hBa hhb
    have ho8 := (hk8.2 go (blk_lt ((hka.2 go (blk_lt ho7) hne1 (by simp)).trans ho7)) hne2 (by simp)).trans ((hka.2 go (blk_lt ho7) hne1 (by simp)).trans ho7)
    have hJ8 := rh_keepR hJa hk8 hne3
    clear zz fzz hka hha hJa hBa hk8 hh7 ho7 hJ7 hB7
    generalize w7a.setCell ⟨gh, 2, none⟩ (.int .i64 v1) = w8 at *
    go_upto_region 11 with (go_at_call 52; refine (splicerref02_Reader_Num.calls 40 g _ _ _ _ _ _ _ _ w _ hJ8 hB8 r2).mono ?_; rintro e w8a ⟨rfl, hJa, hBa, hka⟩; have hha := (hka.2 gh (blk_lt hh8) hne3.symm (by simp)).trans hh8; have zz : w8a.cell? ⟨gh, 1, none⟩ = some (.int .i64 0) := (blk_cell hha 1).trans rfl; have fzz := blk_frozen hha 1)
    have hk9 := (KeepBut.refl w8a gh none).set_ 1 (.int .i64 v2)
    have hh9 := blk_put (cs := #[.int .i64 v0, .int .i64 0, .int .i64 v1, .int .i64 0, .int .i64 0, .int .i64 0]) hha 1 (.int .i64 v2) rfl
    have hB9 := below_set (j := 1) (v := .int .i64 v2) hBa hhb
    have ho9 := (hk9.2 go (blk_lt ((hka.2 go (blk_lt ho8) hne1 (by simp)).trans ho8)) hne2 (by simp)).trans ((hka.2 go (blk_lt ho8) hne1 (by simp)).trans ho8)
    have hJ9 := rh_keepR hJa hk9 hne3
    clear zz fzz hka hha hJa hBa hk9 hh8 ho8 hJ8 hB8
    generalize w8a.setCell ⟨gh, 1, none⟩ (.int .i64 v2) = w9 at *
    go_upto_region 12 with (go_at_call 52; refine (splicerref02_Reader_Num.calls 40 g _ _ _ _ _ _ _ _ w _ hJ9 hB9 r3).mono ?_; rintro e w9a ⟨rfl, hJa, hBa, hka⟩; have hha := (hka.2 gh (blk_lt hh9) hne3.symm (by simp)).trans hh9; have zz : w9a.cell? ⟨gh, 3, none⟩ = some (.int .i64 0) := (blk_cell hha 3).trans rfl; have fzz := blk_frozen hha 3)
    have hk10 := (KeepBut.refl w9a gh none).set_ 3 (.int .i64 v3)
    have hh10 := blk_put (cs := #[.int .i64 v0, .int .i64 v2, .int .i64 v1, .int .i64 0, .int .i64 0, .int .i64 0]) hha 3 (.int .i64 v3) rfl
    have hB10 := below_set (j := 3) (v := .int .i64 v3) hBa hhb
    have ho10 := (hk10.2 go (blk_lt ((hka.2 go (blk_lt ho9) hne1 (by simp)).trans ho9)) hne2 (by simp)).trans ((hka.2 go (blk_lt ho9) hne1 (by simp)).trans ho9)
    have hJ10 := rh_keepR hJa hk10 hne3
    clear zz fzz hka hha hJa hBa hk10 hh9 ho9 hJ9 hB9
    generalize w9a.setCell ⟨gh, 3, none⟩ (.int .i64 v3) = w10 at *
    go_upto_region 13 with (go_at_call 52; refine (splicerref02_Reader_Num.calls 40 g _ _ _ _ _ _ _ _ w _ hJ10 hB10 r4).mono ?_; rintro e w10a ⟨rfl, hJa, hBa, hka⟩; have hha := (hka.2 gh (blk_lt hh10) hne3.symm (by simp)).trans hh10; have zz : w10a.cell? ⟨gh, 4, none⟩ = some (.int .i64 0) := (blk_cell hha 4).trans rfl; have fzz := blk_frozen hha 4)
    have hk11 := (KeepBut.refl w10a gh none).set_ 4 (.int .i64 v4)
    have hh11 := blk_put (cs := #[.int .i64 v0, .int .i64 v2, .int .i64 v1, .int .i64 v3, .int .i64 0, .int .i64 0]) hha 4 (.int .i64 v4) rfl
    have hB11 := below_set (j := 4) (v := .int .i64 v4) hBa hhb
    have ho11 := (hk11.2 go (blk_lt ((hka.2 go (blk_lt ho10) hne1 (by simp)).trans ho10)) hne2 (by simp)).trans ((hka.2 go (blk_lt ho10) hne1 (by simp)).trans ho10)
    have hJ11 := rh_keepR hJa hk11 hne3
    clear zz fzz hka hha hJa hBa hk11 hh10 ho10 hJ10 hB10
    generalize w10a.setCell ⟨gh, 4, none⟩ (.int .i64 v4) = w11 at *
    go_upto_region 14 with (go_at_call 52; refine (splicerref02_Reader_Num.calls 40 g _ _ _ _ _ _ _ _ w _ hJ11 hB11 r5).mono ?_; rintro e w11a ⟨rfl, hJa, hBa, hka⟩; have hha := (hka.2 gh (blk_lt hh11) hne3.symm (by simp)).trans hh11; have zz : w11a.cell? ⟨gh, 5, none⟩ = some (.int .i64 0) := (blk_cell hha 5).trans rfl; have fzz := blk_frozen hha 5)
    have hk12 := (KeepBut.refl w11a gh none).set_ 5 (.int .i64 v5)
    have hh12 := blk_put (cs := #[.int .i64 v0, .int .i64 v2, .int .i64 v1, .int .i64 v3, .int .i64 v4, .int .i64 0]) hha 5 (.int .i64 v5) rfl
    have hB12 := below_set (j := 5) (v := .int .i64 v5) hBa hhb
    have ho12 := (hk12.2 go (blk_lt ((hka.2 go (blk_lt ho11) hne1 (by simp)).trans ho11)) hne2 (by simp)).trans ((hka.2 go (blk_lt ho11) hne1 (by simp)).trans ho11)
    have hJ12 := rh_keepR hJa hk12 hne3
    clear zz fzz hka hha hJa hBa hk12 hh11 ho11 hJ11 hB11
    generalize w11a.setCell ⟨gh, 5, none⟩ (.int .i64 v5) = w12 at *
    go_upto_region 15 with (go_at_call 52; refine (splicerref02_Reader_Num.calls 40 g _ _ _ _ _ _ _ _ w _ hJ12 hB12 r6).mono ?_; rintro e wb ⟨rfl, hJb, hBb, hkb⟩)
    have hhb' := (hkb.2 gh (blk_lt hh12) hne3.symm (by simp)).trans hh12
    have hob' := (hkb.2 go (blk_lt ho12) hne1 (by simp)).trans ho12
    have k0 : wb.cell? ⟨gh, 0, none⟩ = some (.int .i64 v0) := (blk_cell hhb' 0).trans rfl
    have k1 : wb.cell? ⟨gh, 1, none⟩ = some (.int .i64 v2) := (blk_cell hhb' 1).trans rfl
    have k2 : wb.cell? ⟨gh, 2, none⟩ = some (.int .i64 v1) := (blk_cell hhb' 2).trans rfl
    have k3 : wb.cell? ⟨gh, 3, none⟩ = some (.int .i64 v3) := (blk_cell hhb' 3).trans rfl
    have k4 : wb.cell? ⟨gh, 4, none⟩ = some (.int .i64 v4) := (blk_cell hhb' 4).trans rfl
    have k5 : wb.cell? ⟨gh, 5, none⟩ = some (.int .i64 v5) := (blk_cell hhb' 5).trans rfl
    have hHT := HT.out
    have arm := fun (W : World) => splicerref29_Right.calls _ _ _ _ _ _ _ _ W hHT
    rcases HR2.out with ⟨rfl, rfl⟩ | ⟨rfl, rfl⟩
    · go_wp2_with (go_at_call 16; refine (splicerref29_Right.calls _ _ _ _ _ _ _ _ _ hHT).mono ?_; rintro e wc ⟨rfl, hbc⟩; have hoc := blk_below hob' hbc; have hhc := blk_below hhb' hbc; have hBc := below_step hBb hbc; clear k0 k1 k2 k3 k4 k5; have z0 : wc.cell? ⟨go, 0, none⟩ = some (.int .i64 0) := (blk_cell hoc 0).trans rfl; have fz0 := blk_frozen hoc 0; have l0 : wc.cell? ⟨gh, 0, none⟩ = some (.int .i64 v0) := (blk_cell hhc 0).trans rfl; have z1 : wc.cell? ⟨go, 1, none⟩ = some (.int .i64 0) := (blk_cell hoc 1).trans rfl; have fz1 := blk_frozen hoc 1; have l1 : wc.cell? ⟨gh, 1, none⟩ = some (.int .i64 v2) := (blk_cell hhc 1).trans rfl; have z2 : wc.cell? ⟨go, 2, none⟩ = some (.int .i64 0) := (blk_cell hoc 2).trans rfl; have fz2 := blk_frozen hoc 2; have l2 : wc.cell? ⟨gh, 2, none⟩ = some (.int .i64 v1) := (blk_cell hhc 2).trans rfl; have z3 : wc.cell? ⟨go, 3, none⟩ = some (.int .i64 0) := (blk_cell hoc 3).trans rfl; have fz3 := blk_frozen hoc 3; have l3 : wc.cell? ⟨gh, 3, none⟩ = some (.int .i64 v3) := (blk_cell hhc 3).trans rfl; have z4 : wc.cell? ⟨go, 4, none⟩ = some (.int .i64 0) := (blk_cell hoc 4).trans rfl; have fz4 := blk_frozen hoc 4; have l4 : wc.cell? ⟨gh, 4, none⟩ = some (.int .i64 v4) := (blk_cell hhc 4).trans rfl; have z5 : wc.cell? ⟨go, 5, none⟩ = some (.int .i64 0) := (blk_cell hoc 5).trans rfl; have fz5 := blk_frozen hoc 5; have l5 : wc.cell? ⟨gh, 5, none⟩ = some (.int .i64 v5) := (blk_cell hhc 5).trans rfl)
      have hgo9 := st6_blk hoc (.int .i64 v0) (.int .i64 v2) (.int .i64 v1) (.int .i64 v3) (.int .i64 v4) (.int .i64 v5)
      have hB9 := st6_below hBc hob (.int .i64 v0) (.int .i64 v2) (.int .i64 v1) (.int .i64 v3) (.int .i64 v4) (.int .i64 v5)
      unfold st6 at hgo9
      refine bodyPost_ret (results_ctt rfl _ _ go 23 _ (0, 0) _ rfl hgo9 hu rfl (by kernel_rfl)) rfl ?_
      exact ⟨rfl, hB9⟩
    · go_wp2_with (go_at_call 16; refine (splicerref29_Right.calls _ _ _ _ _ _ _ _ _ hHT).mono ?_; rintro e wc ⟨rfl, hbc⟩; have hoc := blk_below hob' hbc; have hhc := blk_below hhb' hbc; have hBc := below_step hBb hbc; clear k0 k1 k2 k3 k4 k5; have z0 : wc.cell? ⟨go, 0, none⟩ = some (.int .i64 0) := (blk_cell hoc 0).trans rfl; have fz0 := blk_frozen hoc 0; have l0 : wc.cell? ⟨gh, 0, none⟩ = some (.int .i64 v0) := (blk_cell hhc 0).trans rfl; have z1 : wc.cell? ⟨go, 1, none⟩ = some (.int .i64 0) := (blk_cell hoc 1).trans rfl; have fz1 := blk_frozen hoc 1; have l1 : wc.cell? ⟨gh, 1, none⟩ = some (.int .i64 v2) := (blk_cell hhc 1).trans rfl; have z2 : wc.cell? ⟨go, 2, none⟩ = some (.int .i64 0) := (blk_cell hoc 2).trans rfl; have fz2 := blk_frozen hoc 2; have l2 : wc.cell? ⟨gh, 2, none⟩ = some (.int .i64 v1) := (blk_cell hhc 2).trans rfl; have z3 : wc.cell? ⟨go, 3, none⟩ = some (.int .i64 0) := (blk_cell hoc 3).trans rfl; have fz3 := blk_frozen hoc 3; have l3 : wc.cell? ⟨gh, 3, none⟩ = some (.int .i64 v3) := (blk_cell hhc 3).trans rfl; have z4 : wc.cell? ⟨go, 4, none⟩ = some (.int .i64 0) := (blk_cell hoc 4).trans rfl; have fz4 := blk_frozen hoc 4; have l4 : wc.cell? ⟨gh, 4, none⟩ = some (.int .i64 v4) := (blk_cell hhc 4).trans rfl; have z5 : wc.cell? ⟨go, 5, none⟩ = some (.int .i64 0) := (blk_cell hoc 5).trans rfl; have fz5 := blk_frozen hoc 5; have l5 : wc.cell? ⟨gh, 5, none⟩ = some (.int .i64 v5) := (blk_cell hhc 5).trans rfl)
      have hgo9 := st6_blk hoc (.int .i64 0) (.int .i64 0) (.int .i64 0) (.int .i64 0) (.int .i64 0) (.int .i64 0)
      have hB9 := st6_below hBc hob (.int .i64 0) (.int .i64 0) (.int .i64 0) (.int .i64 0) (.int .i64 0) (.int .i64 0)
      unfold st6 at hgo9
      refine bodyPost_ret (results_ctt rfl _ _ go 23 _ (0, 0) _ rfl hgo9 hu rfl (by kernel_rfl)) rfl ?_
      exact ⟨rfl, hB9⟩
set_option maxHeartbeats 2000000 in
set_option maxRecDepth 100000 in
theorem rh_no (s : ByteArray) (e0 : Int) (w : World) (h : (e0 = 2 ∧ s.size < 25) ∨ (e0 = 4 ∧ 25 ≤ s.size ∧ ¬ (s.extract 0 4).toList = ([83, 80, 76, 49] : List UInt8))) :
    Calls Try.prog 19 #[.string s] w fun e w' => e = .returned (.tuple #[.agg #[.int .i64 0, .int .i64 0, .int .i64 0, .int .i64 0, .int .i64 0, .int .i64 0], .int .i64 0, .int .i64 e0]) ∧ Below w.heap.size w w' := by
  have hu := Try.underlying23
  have hgo := blk_new w (.cells #[.int .i64 0, .int .i64 0, .int .i64 0, .int .i64 0, .int .i64 0, .int .i64 0] 23)
  have hB := below_alloc (Below.refl w.heap.size w) (.cells #[.int .i64 0, .int .i64 0, .int .i64 0, .int .i64 0, .int .i64 0, .int .i64 0] 23)
  have hgo9 := st6_blk hgo (.int .i64 0) (.int .i64 0) (.int .i64 0) (.int .i64 0) (.int .i64 0) (.int .i64 0)
  have hB9 := st6_below hB (Nat.le_refl w.heap.size) (.int .i64 0) (.int .i64 0) (.int .i64 0) (.int .i64 0) (.int .i64 0) (.int .i64 0)
  have HGO9 := Aside0.mk hgo9
  have HB9 := Aside0.mk hB9
  clear hgo9 hB9
  have z0 : (w.alloc (.cells #[.int .i64 0, .int .i64 0, .int .i64 0, .int .i64 0, .int .i64 0, .int .i64 0] 23)).cell? ⟨w.heap.size, 0, none⟩ = some (.int .i64 0) := (blk_cell hgo 0).trans rfl
  have fz0 := blk_frozen hgo 0
  have z1 : (w.alloc (.cells #[.int .i64 0, .int .i64 0, .int .i64 0, .int .i64 0, .int .i64 0, .int .i64 0] 23)).cell? ⟨w.heap.size, 1, none⟩ = some (.int .i64 0) := (blk_cell hgo 1).trans rfl
  have fz1 := blk_frozen hgo 1
  have z2 : (w.alloc (.cells #[.int .i64 0, .int .i64 0, .int .i64 0, .int .i64 0, .int .i64 0, .int .i64 0] 23)).cell? ⟨w.heap.size, 2, none⟩ = some (.int .i64 0) := (blk_cell hgo 2).trans rfl
  have fz2 := blk_frozen hgo 2
  have z3 : (w.alloc (.cells #[.int .i64 0, .int .i64 0, .int .i64 0, .int .i64 0, .int .i64 0, .int .i64 0] 23)).cell? ⟨w.heap.size, 3, none⟩ = some (.int .i64 0) := (blk_cell hgo 3).trans rfl
  have fz3 := blk_frozen hgo 3
  have z4 : (w.alloc (.cells #[.int .i64 0, .int .i64 0, .int .i64 0, .int .i64 0, .int .i64 0, .int .i64 0] 23)).cell? ⟨w.heap.size, 4, none⟩ = some (.int .i64 0) := (blk_cell hgo 4).trans rfl
  have fz4 := blk_frozen hgo 4
  have z5 : (w.alloc (.cells #[.int .i64 0, .int .i64 0, .int .i64 0, .int .i64 0, .int .i64 0, .int .i64 0] 23)).cell? ⟨w.heap.size, 5, none⟩ = some (.int .i64 0) := (blk_cell hgo 5).trans rfl
  have fz5 := blk_frozen hgo 5
  generalize hW1 : w.alloc (.cells #[.int .i64 0, .int .i64 0, .int .i64 0, .int .i64 0, .int .i64 0, .int .i64 0] 23) = W1 at HGO9 HB9 z0 z1 z2 z3 z4 z5 fz0 fz1 fz2 fz3 fz4 fz5
  rcases h with ⟨rfl, h⟩ | ⟨rfl, h1, h2⟩
  · have d3 : decide ((s.size : Int) < 25) = true := decide_eq_true (by omega)
    go_enter Try.func19, Try.ntmps19
    go_upto_region 1 with (fail)
    clear hgo hW1
    go_wp2_with fail
    refine bodyPost_ret (results_ctt rfl _ _ w.heap.size 23 _ (0, 0) _ rfl HGO9.out hu rfl (by kernel_rfl)) rfl ?_
    exact ⟨rfl, HB9.out⟩
  · have d3 : decide ((s.size : Int) < 25) = false := decide_eq_false (by omega)
    have q3 : ((4 : Int) ≤ (s.size : Int)) = True := eq_true (by omega)
    have hmgb : ((s.extract 0 4).toList == ([83, 80, 76, 49] : List UInt8)) = false := beq_eq_false_iff_ne.mpr h2
    go_enter Try.func19, Try.ntmps19
    go_upto_region 1 with (fail)
    clear hgo hW1
    go_wp2_with fail
    refine bodyPost_ret (results_ctt rfl _ _ w.heap.size 23 _ (0, 0) _ rfl HGO9.out hu rfl (by kernel_rfl)) rfl ?_
    exact ⟨rfl, HB9.out⟩
theorem tot_ite {α : Type} {c : Prop} [Decidable c] {x y : Option α} (hx : ∃ t, x = some t) (hy : ∃ t, y = some t) : ∃ t, (if c then x else y) = some t := by split <;> assumption
theorem rright_tot (a0 a1 a2 a3 a4 a5 p : Int) : ∃ t, splicerref29_Right.f a0 a1 a2 a3 a4 a5 p = some t := by
  unfold splicerref29_Right.f
  repeat' first
    | refine tot_ite ?_ ?_
    | exact ⟨_, rfl⟩
theorem splicerref29_Get.calls (k : Nat) (a1 : ByteArray) (r1 r2 r3 r4 r5 r6 r7 r8 : Int) (w : World) (h : splicerref29_Get.f k a1 = some (r1, r2, r3, r4, r5, r6, r7, r8)) :
    Calls Try.prog 19 #[.string a1] w fun e w' => e = .returned (.tuple #[.agg #[.int .i64 r1, .int .i64 r2, .int .i64 r3, .int .i64 r4, .int .i64 r5, .int .i64 r6], .int .i64 r7, .int .i64 r8]) ∧ Below w.heap.size w w' := by
  unfold splicerref29_Get.f at h
  by_cases hs : a1.size ≤ 100000
  · rw [if_pos hs] at h
    by_cases c1 : (a1.size : Int) < 25
    · rw [if_pos c1] at h
      have e := Option.some.inj h
      unfold hnone at e
      simp only [Prod.mk.injEq] at e
      obtain ⟨rfl, rfl, rfl, rfl, rfl, rfl, rfl, rfl⟩ := e
      exact rh_no a1 2 w (.inl ⟨rfl, by omega⟩)
    · rw [if_neg c1] at h
      by_cases c2 : (a1.extract 0 4).toList = ([83, 80, 76, 49] : List UInt8)
      · rw [if_pos c2] at h
        obtain ⟨sm, hs1, h⟩ := Option.bind_eq_some_iff.1 h
        obtain ⟨nb, hn1, h⟩ := Option.bind_eq_some_iff.1 h
        obtain ⟨t, hT⟩ := rright_tot (hval a1.data.toList 0) (hval a1.data.toList 2) (hval a1.data.toList 1) (hval a1.data.toList 3) (hval a1.data.toList 4) (hval a1.data.toList 5) (hval a1.data.toList 6)
        rw [hT, Option.bind_some] at h
        refine rh_run k a1 (r1, r2, r3, r4, r5, r6, r7, r8) w (by omega) hs c2 sm hs1 nb hn1 t _ _ _ _ _ _ _ rfl rfl rfl rfl rfl rfl rfl hT ?_
        by_cases c3 : (a1.extract 21 25).toList = nb.toList
        · rw [if_pos c3] at h
          refine .inr ⟨c3, ?_⟩
          cases t with
          | true => rw [if_pos rfl] at h; exact .inl ⟨rfl, (Option.some.inj h).symm⟩
          | false => rw [if_neg (by decide)] at h; exact .inr ⟨rfl, (Option.some.inj h).symm⟩
        · rw [if_neg c3] at h
          exact .inl ⟨c3, (Option.some.inj h).symm⟩
      · rw [if_neg c2] at h
        have e := Option.some.inj h
        unfold hnone at e
        simp only [Prod.mk.injEq] at e
        obtain ⟨rfl, rfl, rfl, rfl, rfl, rfl, rfl, rfl⟩ := e
        exact rh_no a1 4 w (.inr ⟨rfl, by omega, c2⟩)
  · rw [if_neg hs] at h; cases h
end

end Go.Proofs.Ythdlikiakegekaa.S
