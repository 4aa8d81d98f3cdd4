import Derived.Test.YthdlikiakegekaaLx3
/-! What lace and its reference tell: plain lists. -/
set_option linter.unusedVariables false
namespace Go.Proofs.Ythdlikiakegekaa.LaceLem
open Go.RowKit Go.Proofs.Ythdlikiakegekaa.S Go.Proofs.YthdlikiakegekaaW.PrintWords Go.Proofs.YthdlikiakegekaaW.PrintLast Go.Proofs.YthdlikiakegekaaW.PrintMore
/-- A length's octets. -/
def putL (n : Nat) : List UInt8 := List.replicate (n / 255) 255 ++ [UInt8.ofNat (n % 255)]
theorem put_all : ∀ n : Nat, n < 1025 → lace_Put.f (n : Int) = some (⟨(putL n).toArray⟩, true) ∧ splicerref30_Put.f 20 (n : Int) = some (⟨(putL n).toArray⟩, true) := by decide +kernel
theorem awakeE : splicerlaw30_awake.f = some true := by decide +kernel
def inP (x : Int) : Prop := 0 ≤ x ∧ x ≤ 1024
instance (x : Int) : Decidable (inP x) := by unfold inP; infer_instance
def putS (x : Int) : ByteArray × Bool := if inP x then (⟨(putL x.toNat).toArray⟩, true) else (⟨#[]⟩, false)
theorem putE (x : Int) : lace_Put.f x = some (putS x) := by
  unfold putS
  by_cases h : inP x
  · have := (put_all x.toNat (by have := h.2; have := h.1; omega)).1
    rw [Int.toNat_of_nonneg h.1] at this
    rw [if_pos h, this]
  · rw [if_neg h]
    unfold inP at h
    unfold lace_Put.f
    by_cases h0 : x < 0
    · rw [if_pos h0]
    · rw [if_neg h0, if_pos (by omega)]
theorem rputE (x : Int) : Ev (fun k => splicerref30_Put.f k x) (putS x) := by
  unfold putS
  by_cases h : inP x
  · have := (put_all x.toNat (by have := h.2; have := h.1; omega)).2
    rw [Int.toNat_of_nonneg h.1] at this
    rw [if_pos h]
    exact Ev.of (fun k => splicerref30_Put.mono _ k) this
  · rw [if_neg h]
    unfold inP at h
    refine Ev.of (k := 1) (fun k => splicerref30_Put.mono _ k) ?_
    unfold splicerref30_Put.f
    by_cases h0 : x < 0
    · rw [if_pos h0]; rfl
    · rw [if_neg h0, decide_eq_true (by omega)]; rfl
theorem putL_len {x : Int} (h : inP x) : (putL x.toNat).length ≤ 5 := by
  unfold inP at h
  unfold putL
  simp only [List.length_append, List.length_replicate, List.length_cons, List.length_nil]
  omega
def allS : List Int → List UInt8 → ByteArray × Bool
  | [], L => (⟨L.toArray⟩, true)
  | x :: l, L => if inP x then allS l (L ++ putL x.toNat) else (⟨#[]⟩, false)
theorem sizeB (L : List UInt8) : (⟨L.toArray⟩ : ByteArray).size = L.length := by show L.toArray.size = _; simp
theorem dataB (L : List UInt8) : (⟨L.toArray⟩ : ByteArray).data.toList = L := by simp
theorem appB (a b : List UInt8) : (⟨a.toArray⟩ : ByteArray) ++ ⟨b.toArray⟩ = ⟨(a ++ b).toArray⟩ := by apply ByteArray.ext; simp
theorem goE : ∀ (l : List Int) (L : List UInt8), L.length + 6 * l.length ≤ 1000000 → lace_All.go l L = some (allS l L) := by
  intro l
  induction l with
  | nil => intro L h; rfl
  | cons x l ih =>
    intro L h
    simp only [lace_All.go, allS, putE, Option.bind_some]
    rw [List.length_cons] at h
    by_cases hx : inP x
    · have := putL_len hx
      unfold putS
      simp only [if_pos hx, sizeB]
      rw [if_pos trivial, if_pos (by omega)]
      exact ih _ (by rw [List.length_append]; omega)
    · unfold putS
      simp only [if_neg hx]
      rw [if_neg (by decide)]
theorem allE (l : List Int) (h : l.length ≤ 30) : lace_All.f l = some (allS l []) := by
  unfold lace_All.f
  rw [if_pos (by omega)]
  exact goE l [] (by simp; omega)
theorem rd_at (l : List Int) (i : Nat) (h : i < l.length) : rd l (i : Int) = l[i] := by
  unfold rd; rw [Int.toNat_natCast, List.getD_eq_getElem?_getD, List.getElem?_eq_getElem h]; rfl
theorem wS (i : Nat) (h : i < 1000000000) : wrap64 ((i : Int) + 1) = ((i + 1 : Nat) : Int) := by unfold wrap64; omega
theorem ev_if {α : Type} {c : Prop} [Decidable c] {g f : Nat → Option α} {r : α} (h1 : c → Ev g r) (h2 : ¬ c → Ev f r) : Ev (fun k => if c then g k else f k) r := by
  by_cases h : c
  · simpa only [if_pos h] using h1 h
  · simpa only [if_neg h] using h2 h
theorem ev_pos {α : Type} {c : Prop} [Decidable c] {g f : Nat → Option α} {r : α} (hc : c) (h1 : Ev g r) : Ev (fun k => if c then g k else f k) r := ev_if (fun _ => h1) (fun h => absurd hc h)
theorem ev_neg {α : Type} {c : Prop} [Decidable c] {g f : Nat → Option α} {r : α} (hc : ¬ c) (h1 : Ev f r) : Ev (fun k => if c then g k else f k) r := ev_if (fun h => absurd h hc) (fun _ => h1)
theorem rall_l (l : List Int) (hl : l.length ≤ 30) : ∀ (d i : Nat) (L : List UInt8), i + d = l.length → L.length + 6 * d ≤ 1000000 → Ev (fun k => splicerref30_All.l0 k l ⟨L.toArray⟩ (i : Int)) (allS (l.drop i) L) := by
  intro d
  induction d with
  | zero =>
    intro i L hi h
    refine Ev.step (f := fun _ => some (⟨L.toArray⟩, true)) (fun k => ?_) ?_
    · simp only [splicerref30_All.l0]; rw [if_neg (by omega)]
    · rw [List.drop_eq_nil_of_le (by omega)]; exact Ev.now _
  | succ d ih =>
    intro i L hi h
    have hlt : i < l.length := by omega
    refine Ev.step (f := fun k => (splicerref30_Put.f k l[i]).bind fun t => (if t.2 = true then (if L.length + t.1.size ≤ 9223372036854775807 then (splicerref30_All.l0 k l (⟨L.toArray⟩ ++ t.1) ((i + 1 : Nat) : Int)) else none) else (some ((⟨#[]⟩ : ByteArray), false)))) (fun k => ?_) ?_
    · simp only [splicerref30_All.l0]
      rw [if_pos (by omega), if_pos (by omega), rd_at l i hlt, wS i (by omega), sizeB]
    · refine Ev.bind (rputE l[i]) ?_
      rw [List.drop_eq_getElem_cons hlt]
      simp only [allS]
      by_cases hx : inP l[i]
      · have hp := putL_len hx
        rw [if_pos hx]
        unfold putS
        simp only [if_pos hx, sizeB, appB]
        refine ev_pos trivial (ev_pos (by omega) ?_)
        exact ih (i + 1) _ (by omega) (by rw [List.length_append]; omega)
      · rw [if_neg hx]
        unfold putS
        simp only [if_neg hx]
        exact ev_neg (by decide) (Ev.now _)
theorem rallE (l : List Int) (hl : l.length ≤ 30) : Ev (fun k => splicerref30_All.f k l) (allS l []) := by
  have := rall_l l hl l.length 0 [] (by omega) (by simp; omega)
  rw [List.drop_zero] at this
  exact this
theorem tells_l (l : List Int) (hl : l.length ≤ 30) (a : ByteArray) (p : Bool) : ∀ d i : Nat, i + d = l.length → Ev (fun k => splicerlaw30_LaceTells.l0 k l a p a p (i : Int)) true := by
  intro d
  induction d with
  | zero =>
    intro i hi
    refine Ev.step (f := fun _ => some true) (fun k => ?_) (Ev.now _)
    simp only [splicerlaw30_LaceTells.l0]; rw [if_neg (by omega), if_pos trivial, if_pos (by simp), awakeE]; rfl
  | succ d ih =>
    intro i hi
    have hlt : i < l.length := by omega
    refine Ev.step (f := fun k => (splicerref30_Put.f k l[i]).bind fun t => (if (putS l[i]).1.toList = t.1.toList then (if ((putS l[i]).2 != t.2) = true then (some false) else (splicerlaw30_LaceTells.l0 k l a p a p ((i + 1 : Nat) : Int))) else (some false))) (fun k => ?_) ?_
    · simp only [splicerlaw30_LaceTells.l0]
      rw [if_pos (by omega), if_pos (by omega), rd_at l i hlt, wS i (by omega), putE]; rfl
    · refine Ev.bind (rputE l[i]) ?_
      exact ev_pos rfl (ev_neg (by simp) (ih (i + 1) (by omega)))
/-! ### and back -/
theorem read1 (b : UInt8) (r : List UInt8) (sz : Int) : octet_Reader_Num.f ⟨(b :: r).toArray⟩ sz true 1 = some ((b.toNat : Int), ⟨r.toArray⟩, sz, true) := by
  unfold octet_Reader_Num.f octet_Reader_Text.f octet_Reader_Bad.f
  have e1 : (⟨(b :: r).toArray⟩ : ByteArray).extract 0 1 = ⟨[b].toArray⟩ := by apply ByteArray.ext; simp
  have e2 : (⟨(b :: r).toArray⟩ : ByteArray).extract 1 (⟨(b :: r).toArray⟩ : ByteArray).size = ⟨r.toArray⟩ := by
    rw [sizeB]; apply ByteArray.ext; simp
  have hs := sizeB (b :: r)
  rw [List.length_cons] at hs
  simp only [Option.bind_some, if_neg (show ¬ ((1 : Int) < 1 ∨ 7 < (1 : Int)) by omega)]
  rw [if_neg (by decide), if_neg (by omega), if_neg (by rw [hs]; omega), if_pos (by omega), if_pos (by rw [hs]; omega)]
  simp only [Option.bind_some, show ((1 : Int)).toNat = 1 from rfl]
  rw [e1, e2]
  show some (((beVal [b] : Nat) : Int), _, _, _) = _
  simp [beVal]
theorem get_l (c : UInt8) (r : List UInt8) (sz : Int) (hc : c.toNat < 255) : ∀ (j k n : Nat), n + 255 * j + c.toNat ≤ 1024 → lace_Get.l (j + 1 + k) (n : Int) ⟨(List.replicate j 255 ++ c :: r).toArray⟩ sz true = some (((n + 255 * j + c.toNat : Nat) : Int), true, ⟨r.toArray⟩, sz, true) := by
  intro j
  induction j with
  | zero =>
    intro k n h
    rw [show 0 + 1 + k = k + 1 by omega]
    simp only [lace_Get.l, List.replicate_zero, List.nil_append]
    rw [if_pos (by omega), read1]
    have ew : wrap64 ((n : Int) + (c.toNat : Int)) = ((n + 255 * 0 + c.toNat : Nat) : Int) := by unfold wrap64; omega
    simp only [Option.bind_some, ew]
    rw [if_pos trivial, if_pos (by omega), if_neg (by omega)]
  | succ j ih =>
    intro k n h
    rw [show j + 1 + 1 + k = (j + 1 + k) + 1 by omega]
    simp only [lace_Get.l, List.replicate_succ, List.cons_append]
    rw [if_pos (by omega), read1]
    have ew : wrap64 ((n : Int) + (((255 : UInt8).toNat : Nat) : Int)) = ((n + 255 : Nat) : Int) := by
      rw [show (255 : UInt8).toNat = 255 from rfl]; unfold wrap64; omega
    simp only [Option.bind_some, ew]
    rw [if_pos trivial, if_neg (by rw [show (255 : UInt8).toNat = 255 from rfl]; omega), ih k (n + 255) (by omega)]
    rw [show n + 255 + 255 * j + c.toNat = n + 255 * (j + 1) + c.toNat by omega]
theorem getE (n : Nat) (h : n ≤ 1024) (r : List UInt8) (sz : Int) : lace_Get.f ⟨(putL n ++ r).toArray⟩ sz true = some ((n : Int), true, ⟨r.toArray⟩, sz, true) := by
  unfold lace_Get.f putL
  have hc : (UInt8.ofNat (n % 255)).toNat = n % 255 := by rw [UInt8.toNat_ofNat']; omega
  have := get_l (UInt8.ofNat (n % 255)) r sz (by rw [hc]; omega) (n / 255) (11 - n / 255) 0 (by rw [hc]; omega)
  rw [show n / 255 + 1 + (11 - n / 255) = 12 by omega, hc, show 0 + 255 * (n / 255) + n % 255 = n by omega] at this
  rw [List.append_assoc, List.singleton_append]
  exact this
/-- The octets of many. -/
def many : List Int → List UInt8
  | [] => []
  | x :: l => putL x.toNat ++ many l
theorem all_many : ∀ (l : List Int) (L : List UInt8), (∀ x ∈ l, inP x) → allS l L = (⟨(L ++ many l).toArray⟩, true) := by
  intro l
  induction l with
  | nil => intro L _; simp [allS, many]
  | cons x l ih =>
    intro L h
    simp only [allS, many]
    rw [if_pos (h x (by simp)), ih _ (fun y hy => h y (by simp [hy])), List.append_assoc]
theorem back_1 (m : List Int) (hm : m.length ≤ 30) (hin : ∀ x ∈ m, inP x) (sz : Int) : ∀ d i : Nat, i + d = m.length → Ev (fun k => splicerlaw30_LaceBack.l1 k m (i : Int) ⟨(many (m.drop i)).toArray⟩ sz true) true := by
  intro d
  induction d with
  | zero =>
    intro i hi
    refine Ev.step (f := fun _ => some true) (fun k => ?_) (Ev.now _)
    rw [List.drop_eq_nil_of_le (by omega)]
    simp only [splicerlaw30_LaceBack.l1, many]; rw [if_neg (by omega)]
    have e : octet_Reader_Left.f ⟨([] : List UInt8).toArray⟩ sz true = some (0, ⟨#[]⟩, sz, true) := rfl
    rw [e, Option.bind_some, if_pos rfl]
    have e2 : octet_Reader_Bad.f ⟨#[]⟩ sz true = some (false, ⟨#[]⟩, sz, true) := rfl
    rw [e2, Option.bind_some, if_neg Bool.false_ne_true, awakeE]; rfl
  | succ d ih =>
    intro i hi
    have hlt : i < m.length := by omega
    have hx := hin m[i] (List.getElem_mem hlt)
    refine Ev.step (f := fun k => splicerlaw30_LaceBack.l1 k m ((i + 1 : Nat) : Int) ⟨(many (m.drop (i + 1))).toArray⟩ sz true) (fun k => ?_) (ih (i + 1) (by omega))
    rw [List.drop_eq_getElem_cons hlt]
    simp only [splicerlaw30_LaceBack.l1, many]
    rw [if_pos (by omega), getE m[i].toNat (by have := hx.2; have := hx.1; omega)]
    simp only [Option.bind_some]
    rw [if_pos trivial, if_pos (by omega), rd_at m i hlt, wS i (by omega), if_pos (Int.toNat_of_nonneg hx.1)]
theorem back_0 (l : List Int) (hl : l.length ≤ 30) (hw : ∀ x ∈ l, 0 ≤ x ∧ x ≤ 65535) : ∀ d i : Nat, i + d = l.length → Ev (fun k => splicerlaw30_LaceBack.l0 k l ((l.take i).map fun x => x % 1025) (i : Int)) true := by
  intro d
  induction d with
  | zero =>
    intro i hi
    have ht : l.take i = l := List.take_of_length_le (by omega)
    rw [ht]
    generalize hm : (l.map fun x => x % 1025) = m
    have hml : m.length ≤ 30 := by rw [← hm]; simpa using hl
    have hin : ∀ x ∈ m, inP x := by
      intro x hx
      rw [← hm] at hx
      obtain ⟨y, _, rfl⟩ := List.mem_map.1 hx
      exact ⟨by omega, by omega⟩
    have ha := allE m hml
    rw [all_many m [] hin, List.nil_append] at ha
    have h1 := back_1 m hml hin ((⟨(many m).toArray⟩ : ByteArray).size : Int) m.length 0 (by omega)
    rw [List.drop_zero] at h1
    refine Ev.step (f := fun k => splicerlaw30_LaceBack.l1 k m 0 ⟨(many m).toArray⟩ ((⟨(many m).toArray⟩ : ByteArray).size : Int) true) (fun k => ?_) h1
    simp only [splicerlaw30_LaceBack.l0]
    rw [if_neg (by omega), ha]
    simp only [Option.bind_some, octet_New.f]
    rw [if_pos trivial]
  | succ d ih =>
    intro i hi
    have hlt : i < l.length := by omega
    have hx := hw l[i] (List.getElem_mem hlt)
    refine Ev.step (f := fun k => splicerlaw30_LaceBack.l0 k l ((l.take (i + 1)).map fun x => x % 1025) ((i + 1 : Nat) : Int)) (fun k => ?_) (ih (i + 1) (by omega))
    simp only [splicerlaw30_LaceBack.l0]
    have hlen : ((l.take i).map fun x : Int => x % 1025).length < 17592186044416 := by
      rw [List.length_map, List.length_take]; omega
    have ex : Int.tmod (wrap64 l[i]) 1025 = l[i] % 1025 := by
      rw [show wrap64 l[i] = l[i] by unfold wrap64; omega, Int.tmod_eq_emod_of_nonneg hx.1]
    rw [if_pos (by omega), if_pos (by omega), if_pos hlen, rd_at l i hlt, wS i (by omega), ex, List.take_succ_eq_append_getElem hlt, List.map_append]
    rfl
end Go.Proofs.Ythdlikiakegekaa.LaceLem
