import Derived.Test.YtagffnckmlfcnaaMs8
import Derived.Test.YtagffnckmlfcnaaSpanNum
/-! The law of the spans evaluated. -/
set_option linter.unusedVariables false
namespace Go.Proofs.Ytagffnckmlfcnaa.SpanLaw
open Go.RowKit Go.Proofs.Ytagffnckmlfcnaa.S Go.Proofs.YtagffnckmlfcnaaW.PrintWords Go.Proofs.YtagffnckmlfcnaaW.PrintLast Go.Proofs.YtagffnckmlfcnaaW.PrintMore
open MetLem SpanLem SpanNum
theorem rdB (M : List Bool) (i : Nat) : rdOf false M (i : Int) = M.getD i false := by unfold rdOf; rw [Int.toNat_natCast]
theorem rdX (X : List S32) (i : Nat) : rd_T32 X (i : Int) = X.getD i z32 := by unfold rd_T32; rw [Int.toNat_natCast]
theorem ok_len {p : Nat → Bool} {N : Nat} {least : Int} (hl : 1 ≤ least) : ∀ (xs : List S32) (last : Int), SpOK p N least last xs → (xs.length : Int) ≤ sumL xs := by
  intro xs
  induction xs with
  | nil => intro _ _; exact Int.le_refl _
  | cons x xs ih =>
    intro last h
    have h1 := ih _ h.2
    have h2 := h.1.len
    rw [List.length_cons]
    show _ ≤ (x.f1 - x.f0) + sumL xs
    omega
section
variable {l : List (List Int)} {fl least : Int} {M : List Bool} {p : Nat → Bool} {n : Nat} {X : List S32} {r : Bool}
theorem l1E (hM : M.length = n) (hp : ∀ j, j < n → M.getD j false = p j) (hn : n ≤ 200) (many i : Int) (F E : Nat) (hE : E ≤ n) (hall : ∀ j : Nat, F ≤ j → j < E → p j = true)
    (hk : Ev (fun k => splicerlaw47_MeterSpans.l0 k l fl least M X (E : Int) (wrap64 ((wrap64 (many + (E : Int))) - (F : Int))) (wrap64 (i + 1))) r) :
    ∀ d j : Nat, j + d = E → F ≤ j → Ev (fun k => splicerlaw47_MeterSpans.l1 k l fl least M X many i (F : Int) (E : Int) (j : Int)) r := by
  intro d
  induction d with
  | zero =>
    intro j hj hf
    refine Ev.step (fun k => ?_) hk
    simp only [splicerlaw47_MeterSpans.l1]; rw [if_neg (by omega)]
  | succ d ih =>
    intro j hj hf
    refine Ev.step (fun k => ?_) (ih (j + 1) (by omega) (by omega))
    simp only [splicerlaw47_MeterSpans.l1]
    rw [if_pos (by omega), if_pos (by omega), if_pos (by omega), rdB, hp j (by omega), hall j hf (by omega), if_pos rfl, wS j (by omega)]
theorem j2E (hM : M.length = n) (hp : ∀ j, j < n → M.getD j false = p j) (hn : n ≤ 200) (many i : Int) (F E : Nat) (hFE : F ≤ E) (hE : E ≤ n) (hall : ∀ j : Nat, F ≤ j → j < E → p j = true)
    (hk : Ev (fun k => splicerlaw47_MeterSpans.l0 k l fl least M X (E : Int) (wrap64 ((wrap64 (many + (E : Int))) - (F : Int))) (wrap64 (i + 1))) r) :
    Ev (fun k => splicerlaw47_MeterSpans.j2 k l fl least M X many i (F : Int) (E : Int) false) r := by
  refine Ev.step (fun k => ?_) (l1E hM hp hn many i F E hE hall hk (E - F) F (by omega) (Nat.le_refl _))
  simp only [splicerlaw47_MeterSpans.j2]; rw [if_neg (by decide)]
theorem l0E (hM : M.length = n) (hp : ∀ j, j < n → M.getD j false = p j) (hn : n ≤ 200) (hl : 1 ≤ least) (hl2 : least ≤ 20) (S : Int)
    (hk : Ev (fun k => (meter_Quiet.f l fl 1).bind fun t202 => (splicerlaw47_MeterSpans.l2 k l fl M S t202 0 0 0)) r) :
    ∀ (d i : Nat) (last many : Int), i + d = X.length → X.length ≤ 200 → SpOK p n least last (X.drop i) → -1 ≤ last → 0 ≤ many → many + sumL (X.drop i) = S → S ≤ 200 → Ev (fun k => splicerlaw47_MeterSpans.l0 k l fl least M X last many (i : Int)) r := by
  intro d
  induction d with
  | zero =>
    intro i last many hi hX hok h1 h2 hs hS
    refine Ev.step (fun k => ?_) hk
    rw [List.drop_eq_nil_of_le (by omega)] at hs
    have : sumL [] = 0 := rfl
    simp only [splicerlaw47_MeterSpans.l0]; rw [if_neg (by omega), show many = S by omega]
  | succ d ih =>
    intro i last many hi hX hok h1 h2 hs hS
    rw [drop_cons X z32 i (by omega)] at hok hs
    obtain ⟨hx, hrest⟩ := hok
    have hlen := ok_len hl _ _ hrest
    have hsum : sumL (X.getD i z32 :: X.drop (i + 1)) = ((X.getD i z32).f1 - (X.getD i z32).f0) + sumL (X.drop (i + 1)) := rfl
    rw [hsum] at hs
    have IH := ih (i + 1) (X.getD i z32).f1 (many + ((X.getD i z32).f1 - (X.getD i z32).f0)) (by omega) hX hrest (by have := hx.nn; have := hx.len; omega) (by have := hx.nn; have := hx.len; omega) (by omega) hS
    have hrd := rdX X i
    generalize X.getD i z32 = x at *
    obtain ⟨F, hF⟩ := Int.eq_ofNat_of_zero_le hx.nn
    obtain ⟨E, hE⟩ := Int.eq_ofNat_of_zero_le (show 0 ≤ x.f1 by have := hx.nn; have := hx.len; omega)
    have xlo := hx.lo
    have xlen := hx.len
    have xhi := hx.hi
    have xbef := hx.bef
    have xaft := hx.aft
    have xall := hx.all
    rw [hF] at xlo xlen xbef xall IH hs
    rw [hE] at xlen xhi xaft xall IH hs
    have ew1 : wrap64 ((F : Int) + least) = (F : Int) + least := by unfold wrap64; omega
    have ew2 : wrap64 (wrap64 (many + (E : Int)) - (F : Int)) = many + ((E : Int) - (F : Int)) := by unfold wrap64; omega
    have hJ := j2E (l := l) (fl := fl) (least := least) (X := X) (r := r) hM hp hn many (i : Int) F E (by omega) (by omega) (fun j hj hj2 => xall j (by omega) (by omega)) (by rw [ew2, wS i (by omega)]; exact IH)
    clear IH
    have haft : (if (E : Int) < (M.length : Int) then (if 0 ≤ (E : Int) then rdOf false M (E : Int) else false) else false) = false := by
      by_cases c : (E : Int) < (M.length : Int)
      · rw [if_pos c, if_pos (by omega), rdB, hp E (by omega)]
        rcases xaft with h | h
        · omega
        · rw [Int.toNat_natCast] at h; exact h
      · rw [if_neg c]
    refine Ev.step (fun k => ?_) hJ
    simp only [splicerlaw47_MeterSpans.l0]
    rw [if_pos (by omega), if_pos (by omega), hrd, hF, hE, if_neg (by omega), ew1, if_neg (by omega), if_neg (by omega)]
    by_cases c0 : (F : Int) > 0
    · have ew3 : wrap64 ((F : Int) - 1) = ((F - 1 : Nat) : Int) := by unfold wrap64; omega
      have hb : p (F - 1) = false := by
        rcases xbef with h | h
        · omega
        · rw [show ((F : Int) - 1).toNat = F - 1 by omega] at h; exact h
      rw [if_pos c0, ew3, if_pos (by omega), if_pos (by omega), rdB, hp (F - 1) (by omega), hb, if_neg (by decide)]
      by_cases c : (E : Int) < (M.length : Int)
      · rw [if_pos c, if_pos (by omega)] at haft
        rw [if_pos c, if_pos (by omega), haft]
      · rw [if_neg c]
    · rw [if_neg c0]
      by_cases c : (E : Int) < (M.length : Int)
      · rw [if_pos c, if_pos (by omega)] at haft
        rw [if_pos c, if_pos (by omega), haft]
      · rw [if_neg c]
theorem cnt_le (p : Nat → Bool) : ∀ i, cnt p i ≤ i := by
  intro i
  induction i with
  | zero => exact Nat.le_refl _
  | succ i ih => unfold cnt; split <;> omega
theorem l2E (hM : M.length = n) (hp : ∀ j, j < n → M.getD j false = p j) (hn : n ≤ 200) (S one : Int) (hk : Ev (fun k => splicerlaw47_MeterSpans.l3 k l fl M S X (cnt p n : Nat) one 0) r) :
    ∀ d i : Nat, i + d = n → Ev (fun k => splicerlaw47_MeterSpans.l2 k l fl M S X (cnt p i : Nat) one (i : Int)) r := by
  intro d
  induction d with
  | zero =>
    intro i hi
    obtain rfl : i = n := by omega
    refine Ev.step (fun k => ?_) hk
    simp only [splicerlaw47_MeterSpans.l2]; rw [if_neg (by omega)]
  | succ d ih =>
    intro i hi
    have := cnt_le p i
    have IH := ih (i + 1) (by omega)
    refine Ev.step (fun k => ?_) IH
    simp only [splicerlaw47_MeterSpans.l2]
    rw [if_pos (by omega), if_pos (by omega), rdB, hp i (by omega), wS i (by omega)]
    by_cases c : p i = true
    · rw [if_pos c, wS (cnt p i) (by omega), show cnt p (i + 1) = cnt p i + 1 by show (if p i = true then _ else _) = _; rw [if_pos c]]
    · rw [if_neg c, show cnt p (i + 1) = cnt p i by show (if p i = true then _ else _) = _; rw [if_neg c]]
theorem l3E (hl : 1 ≤ least) (S cn T : Int) (hk : Ev (fun k => (meter_Trim.f l fl).bind fun bt208 => (splicerlaw47_MeterSpans.l4 k l M S cn T 0 bt208.1 bt208.2)) r) :
    ∀ (d i : Nat) (last one : Int), i + d = X.length → X.length ≤ 200 → SpOK p n least last (X.drop i) → n ≤ 200 → 0 ≤ one → one + sumL (X.drop i) = T → T ≤ 200 → Ev (fun k => splicerlaw47_MeterSpans.l3 k l fl M S X cn one (i : Int)) r := by
  intro d
  induction d with
  | zero =>
    intro i last one hi hX hok hn h2 hs hS
    refine Ev.step (fun k => ?_) hk
    rw [List.drop_eq_nil_of_le (by omega)] at hs
    have : sumL [] = 0 := rfl
    simp only [splicerlaw47_MeterSpans.l3]; rw [if_neg (by omega), show one = T by omega]
  | succ d ih =>
    intro i last one hi hX hok hn h2 hs hS
    rw [drop_cons X z32 i (by omega)] at hok hs
    obtain ⟨hx, hrest⟩ := hok
    have hlen := ok_len hl _ _ hrest
    have hsum : sumL (X.getD i z32 :: X.drop (i + 1)) = ((X.getD i z32).f1 - (X.getD i z32).f0) + sumL (X.drop (i + 1)) := rfl
    rw [hsum] at hs
    have xnn := hx.nn
    have xlen := hx.len
    have xhi := hx.hi
    have IH := ih (i + 1) (X.getD i z32).f1 (one + ((X.getD i z32).f1 - (X.getD i z32).f0)) (by omega) hX hrest hn (by omega) (by omega) hS
    have hrd := rdX X i
    refine Ev.step (fun k => ?_) IH
    simp only [splicerlaw47_MeterSpans.l3]
    rw [if_pos (by omega), if_pos (by omega), hrd, wS i (by omega)]
    have ew : wrap64 (wrap64 (one + (X.getD i z32).f1) - (X.getD i z32).f0) = one + ((X.getD i z32).f1 - (X.getD i z32).f0) := by unfold wrap64; omega
    rw [ew]
theorem awakeE : Ev (fun k => splicerlaw47_awake.f k) true := Ev.of (k := 60) (fun k => splicerlaw47_awake.mono k) (by decide +kernel)
theorem awG : Ev (fun k => (splicerlaw47_awake.f k).bind fun t => some t) true := Ev.bind awakeE (Ev.now true)
theorem l4E (hM : M.length = n) (hp : ∀ j, j < n → M.getD j false = p j) (hn : n ≤ 200) (hr : rightM l = true) (hs : sizeM l ≤ 200) (S cn : Int) (hS : S ≤ cn) (A B : Nat)
    (h1 : ∀ j, j < n → j < A ∨ B ≤ j → p j = true) (h2 : A = B ∨ (A < B ∧ B ≤ n ∧ p A = false ∧ p (B - 1) = false)) :
    ∀ d i : Nat, i + d = n → Ev (fun k => splicerlaw47_MeterSpans.l4 k l M S cn cn (i : Int) (A : Int) (B : Int)) true := by
  intro d
  induction d with
  | zero =>
    intro i hi
    obtain ⟨pk, pw, h, hq1, hq2⟩ := ofE l hr hs
    refine Ev.step (f := fun k => (meter_Of.f k l).bind fun bt213 => (if cn = cn then (if S ≤ cn then (if bt213.2 ≤ bt213.1 then (if bt213.1 ≥ 0 then (if (A : Int) = (B : Int) then ((splicerlaw47_awake.f k).bind fun t216 => (some t216)) else (if (A : Int) ≥ 0 then (if (B : Int) ≤ (M.length : Int) then (if 0 ≤ (A : Int) then (if (A : Int) < (M.length : Int) then (if rdOf false M (A : Int) = true then (some false) else (if 0 ≤ (wrap64 ((B : Int) - 1)) then (if (wrap64 ((B : Int) - 1)) < (M.length : Int) then (if (rdOf false M (wrap64 ((B : Int) - 1)) = true) then (some false) else ((splicerlaw47_awake.f k).bind fun t219 => (some t219))) else (none)) else (none))) else (none)) else (none)) else (some false)) else (some false))) else (some false)) else (some false)) else (some false)) else (some false))) (fun k => ?_) (Ev.bind h ?_)
    · simp only [splicerlaw47_MeterSpans.l4]; rw [if_neg (by omega)]
    · simp only
      refine ev_pos trivial (ev_pos hS (ev_pos hq1 (ev_pos hq2 ?_)))
      by_cases c : (A : Int) = B
      · exact ev_pos c awG
      · obtain ⟨g1, g2, g3, g4⟩ := h2.resolve_left (by omega)
        have ew : wrap64 ((B : Int) - 1) = ((B - 1 : Nat) : Int) := by unfold wrap64; omega
        refine ev_neg c (ev_pos (by omega) (ev_pos (by omega) (ev_pos (by omega) (ev_pos (by omega) (ev_neg (by rw [rdB, hp A (by omega), g3]; decide) (ev_pos (by omega) (ev_pos (by omega) (ev_neg (by rw [ew, rdB, hp _ (by omega), g4]; decide) awG))))))))
  | succ d ih =>
    intro i hi
    refine Ev.step (fun k => ?_) (ih (i + 1) (by omega))
    simp only [splicerlaw47_MeterSpans.l4]
    rw [if_pos (by omega), wS i (by omega), rdB, hp i (by omega)]
    by_cases c1 : (i : Int) < A
    · rw [if_pos c1, if_pos (by omega), if_pos (h1 i (by omega) (.inl (by omega)))]
    · rw [if_neg c1]
      by_cases c2 : (i : Int) ≥ B
      · rw [if_pos c2, if_pos (by omega), if_pos (h1 i (by omega) (.inr (by omega)))]
      · rw [if_neg c2]
end
theorem j0T (l : List (List Int)) (a1 a2 : Int) : Ev (fun k => splicerlaw47_MeterSpans.j0 k l a1 a2 true) true := by
  refine Ev.step (fun k => ?_) awG
  simp only [splicerlaw47_MeterSpans.j0]; rw [if_pos trivial]
theorem tmod_bd (a m : Int) (h : 0 ≤ a) (hm : 0 < m) : 0 ≤ Int.tmod a m ∧ Int.tmod a m < m := ⟨Int.tmod_nonneg m h, Int.tmod_lt_of_pos a hm⟩
theorem spansE (l : List (List Int)) (a1 a2 : Int) (w1 : 0 ≤ a1 ∧ a1 ≤ 65535) (w2 : 0 ≤ a2 ∧ a2 ≤ 255) : Ev (fun k => splicerlaw47_MeterSpans.f k l a1 a2) true := by
  obtain ⟨b, hb, hf⟩ := fewE l
  refine Ev.bind hb ?_
  cases b with
  | false => exact ev_neg (by decide) (j0T l a1 a2)
  | true =>
    obtain ⟨f1, f2⟩ := hf rfl
    refine ev_pos rfl (Ev.bind (rrightE l f1 f2) ?_)
    cases hr : rightM l with
    | false => exact ev_neg (by decide) (j0T l a1 a2)
    | true =>
      refine ev_pos rfl ?_
      cases hz : ((l.length : Int) == 0) with
      | true => exact j0T l a1 a2
      | false =>
        have hrows := right_rows hr
        have hn : sizeM l ≤ 200 := by
          cases l with
          | nil => exact Nat.zero_le _
          | cons x l => exact f2 0 (by rw [List.length_cons]; omega)
        have e1 : wrap64 a1 = a1 := by unfold wrap64; omega
        have e2 : wrap64 a2 = a2 := by unfold wrap64; omega
        obtain ⟨t1, t2⟩ := tmod_bd a1 32769 w1.1 (by decide)
        obtain ⟨t3, t4⟩ := tmod_bd a2 20 w2.1 (by decide)
        have e3 : wrap64 (1 + Int.tmod a2 20) = 1 + Int.tmod a2 20 := by unfold wrap64; omega
        obtain ⟨fl, hfl⟩ : ∃ fl, fl = Int.tmod a1 32769 := ⟨_, rfl⟩
        obtain ⟨least, hle⟩ : ∃ least, least = 1 + Int.tmod a2 20 := ⟨_, rfl⟩
        have hM : (marksM l fl (sizeM l)).length = sizeM l := by unfold marksM; simp
        have hp : ∀ j, j < sizeM l → (marksM l fl (sizeM l)).getD j false = (fun i => !(loudAt l fl i)) j := by
          intro j hj
          unfold marksM
          rw [List.getD_eq_getElem?_getD, List.getElem?_map, List.getElem?_range hj]; rfl
        have hq : ∀ t : Int, 1 ≤ t → meter_Quiet.f l fl t = some (spL (fun i => !(loudAt l fl i)) t (sizeM l)) := by
          intro t ht
          unfold meter_Quiet.f quietL
          rw [if_pos (by omega), if_pos ⟨hr, by omega, ht⟩]
        obtain ⟨o1, o2, _⟩ := spL_ok (fun i => !(loudAt l fl i)) (sizeM l) least (by omega)
        obtain ⟨q1, q2, q3⟩ := spL_ok (fun i => !(loudAt l fl i)) (sizeM l) 1 (by omega)
        have q4 := q3 rfl
        have hcl := cnt_le (fun i => !(loudAt l fl i)) (sizeM l)
        have n1 := ok_len (by omega) _ _ o1
        have n2 := ok_len (by omega) _ _ q1
        obtain ⟨k1, k2⟩ := trim_ok (loudAt l fl) (sizeM l)
        refine Ev.step (f := fun k => (splicerref47_Marks.f k l fl).bind fun t190 => ((meter_Quiet.f l fl least).bind fun t193 => (splicerlaw47_MeterSpans.l0 k l fl least t190 t193 (-1) 0 0))) (fun k => ?_) ?_
        · simp only [splicerlaw47_MeterSpans.j0]; rw [if_neg (by decide), e1, e2, e3, ← hfl, ← hle]
        · refine Ev.bind (marksE l fl f1 hn (by omega) hrows) ?_
          rw [hq least (by omega)]
          refine l0E (p := fun i => !(loudAt l fl i)) hM hp hn (by omega) (by omega) (sumL (spL (fun i => !(loudAt l fl i)) least (sizeM l))) ?_ _ 0 (-1) 0 (Nat.zero_add _) (by omega) o1 (by omega) (by omega) (Int.zero_add _) (by omega)
          rw [hq 1 (by omega)]
          refine l2E (p := fun i => !(loudAt l fl i)) hM hp hn _ 0 ?_ _ 0 (Nat.zero_add _)
          refine l3E (p := fun i => !(loudAt l fl i)) (n := sizeM l) (least := 1) (by omega) _ _ (cnt (fun i => !(loudAt l fl i)) (sizeM l) : Nat) ?_ _ 0 (-1) 0 (Nat.zero_add _) (by omega) q1 hn (by omega) (by rw [List.drop_zero]; omega) (by omega)
          have ht : meter_Trim.f l fl = some (((trimP (loudAt l fl) (sizeM l)).1 : Int), ((trimP (loudAt l fl) (sizeM l)).2 : Int)) := by
            unfold meter_Trim.f trimL
            rw [if_pos (by omega), if_pos ⟨hr, by omega⟩]
          rw [ht]
          refine l4E (p := fun i => !(loudAt l fl i)) hM hp hn hr hn _ _ (by omega) _ _ (fun j hj h => ?_) ?_ _ 0 (Nat.zero_add _)
          · show (!(loudAt l fl j)) = true; rw [k1 j hj h]; rfl
          · rcases k2 with h | ⟨h1, h2, h3, h4⟩
            · exact .inl h
            · exact .inr ⟨h1, h2, by show (!(loudAt l fl _)) = false; rw [h3]; rfl, by show (!(loudAt l fl _)) = false; rw [h4]; rfl⟩
end Go.Proofs.Ytagffnckmlfcnaa.SpanLaw
