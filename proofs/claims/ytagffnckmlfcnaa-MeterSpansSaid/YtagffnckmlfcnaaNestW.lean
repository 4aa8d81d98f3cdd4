import Derived.Test.YtagffnckmlfcnaaWWords
import Derived.Test.YtagffnckmlfcnaaWLast
import Derived.Test.YtagffnckmlfcnaaWMore
import Derived.ChangeArms
import Derived.DataReads
import Derived.OpenShut
import Derived.ChangeSlices
/-! What a law's argument holds, whatever its type is nested of: the printed texts' kinds, told out of the row's own word. -/
set_option linter.unusedVariables false
set_option linter.unusedSimpArgs false
namespace Go.Proofs.Ytagffnckmlfcnaa.NestW
open Go.RowKit Go.Proofs.YtagffnckmlfcnaaW.PrintWords Go.Proofs.YtagffnckmlfcnaaW.PrintLast Go.Proofs.YtagffnckmlfcnaaW.PrintMore
/-- A datum of type t is read as kind d tells; wf is told of it. -/
structure Op {α : Type} (P : Program) (t : TypeId) (d : Kd α) (wf : α → Prop) : Prop where
  sz : P.cellsOf t = d.sz
  op : ∀ {H : Type} {enc : TypeId × Value → H} {w : World} {base : Nat} {spare : Nat → Bool} {held : Bool} {fuel : Nat} {cs : List Value} {x : DataW H × List MemPlace}, DataW.trod enc P w base spare held fuel t cs = some x → ∃ a, d.K w a cs ∧ wf a
variable {P : Program} {t e : TypeId}
theorem Op.int {k : IntKind} (ht : P.underlying t = some (.int k)) (hc : P.cellsOf t = 1) : Op P t (Kd.int k) (fun n => (Lit.int k n).wf = true) :=
  ⟨hc, fun h => by obtain ⟨n, rfl, _, hw⟩ := DataW.trod_int ht h; exact ⟨n, rfl, hw⟩⟩
theorem Op.bool (ht : P.underlying t = some .bool) (hc : P.cellsOf t = 1) : Op P t Kd.bool (fun _ => True) :=
  ⟨hc, fun h => by obtain ⟨n, rfl, _⟩ := DataW.trod_bool ht h; exact ⟨n, rfl, trivial⟩⟩
theorem Op.string (ht : P.underlying t = some .string) (hc : P.cellsOf t = 1) : Op P t Kd.string (fun s => s.size ≤ maxLen) :=
  ⟨hc, fun h => by obtain ⟨n, rfl, _, hw⟩ := DataW.trod_string ht h; exact ⟨n, rfl, hw⟩⟩
theorem Op.iso {α β : Type} {d : Kd α} {wf : α → Prop} (h : Op P t d wf) (f : β → α) (g : α → β) (hfg : ∀ a, f (g a) = a) : Op P t (Kd.iso d f) (fun b => wf (f b)) :=
  ⟨h.sz, fun hx => by
    obtain ⟨a, hK, hw⟩ := h.op hx
    exact ⟨g a, by show d.K _ (f (g a)) _; rw [hfg]; exact hK, by show wf (f (g a)); rw [hfg]; exact hw⟩⟩
theorem Op.imp {α : Type} {d : Kd α} {wf wf' : α → Prop} (h : Op P t d wf) (hi : ∀ a, wf a → wf' a) : Op P t d wf' :=
  ⟨h.sz, fun hx => by obtain ⟨a, hK, hw⟩ := h.op hx; exact ⟨a, hK, hi a hw⟩⟩
theorem Op.slice {α : Type} {d : Kd α} {wf : α → Prop} (q : Nat) (ht : P.underlying t = some (.slice e)) (hc : P.cellsOf t = 1) (he : Op P e d wf) :
    Op P t (Kd.slice q d) (fun xs => xs.length ≤ maxLen ∧ ∀ x ∈ xs, wf x) := by
  refine ⟨hc, fun {H enc w base spare held fuel cs x} h => ?_⟩
  rcases DataW.trod_slice ht h with ⟨rfl, _⟩ | ⟨a, len, cap, elems, rest, n, _, rfl, _, hb, hl, hm, hlen, hel, _, _⟩
  · exact ⟨[], ⟨none, 0, rfl, Nat.le_refl _, Kd.C_nil d w⟩, Nat.zero_le _, fun _ h => by cases h⟩
  · have each : ∀ i : Fin len, ∃ p : α, ∃ c, w.cells? base (a.add (i * P.cellsOf e)) (P.cellsOf e) = some c ∧ d.K w p c ∧ wf p := by
      intro i
      have hi : i.val < elems.length := by rw [hlen]; exact i.2
      have := hel i i.2
      rw [List.getElem?_eq_getElem hi, Option.bind_eq_some_iff] at this
      obtain ⟨c, hcs, hy⟩ := this
      obtain ⟨p, hK, hw⟩ := he.op hy
      exact ⟨p, c, hcs, hK, hw⟩
    refine ⟨List.ofFn fun i => Classical.choose (each i), ⟨some a, cap, ?_, ?_, ?_, ?_, ?_⟩, ?_, ?_⟩
    · rw [List.length_ofFn]
    · rw [List.length_ofFn]; exact hl
    · rfl
    · rw [List.length_ofFn]; unfold maxLen at hm; omega
    · intro _
      refine ⟨a, rfl, fun j p hp => ?_⟩
      rw [List.getElem?_ofFn] at hp
      split at hp
      · rename_i hj
        obtain rfl := Option.some.inj hp
        obtain ⟨c, hcs, hK, _⟩ := Classical.choose_spec (each ⟨j, hj⟩)
        refine ⟨c, d.K_len hK, hK, fun i u hu => ?_⟩
        obtain ⟨_, hcl, hcell⟩ := World.cells?_some hcs
        have hi : i < P.cellsOf e := by rw [← hcl]; exact (List.getElem?_eq_some_iff.1 hu).1
        have := hcell i hi
        rw [Addr.add_add, hu, he.sz] at this
        exact this
      · cases hp
    · rw [List.length_ofFn]; omega
    · intro x hx
      rw [List.mem_ofFn] at hx
      obtain ⟨i, rfl⟩ := hx
      obtain ⟨c, hcs, hK, hw⟩ := Classical.choose_spec (each i)
      exact hw
/-- Fields from place off on, up to the end of the datum. -/
structure OpF {α : Type} (P : Program) (fs : List Field) (off : Nat) (d : Kd α) (wf : α → Prop) : Prop where
  op : ∀ {H : Type} {enc : TypeId × Value → H} {w : World} {base : Nat} {spare : Nat → Bool} {held : Bool} {n : Nat} {cs : List Value}, (∀ f ∈ fs, ∃ y, DataW.trod enc P w base spare held n f.type ((cs.drop f.offset).take (P.cellsOf f.type)) = some y) → cs.length = off + d.sz → ∃ a, d.K w a (cs.drop off) ∧ wf a
theorem OpF.one {α : Type} {f : Field} {off : Nat} {d : Kd α} {wf : α → Prop} (h : Op P f.type d wf) (ho : f.offset = off) : OpF P [f] off d wf := by
  refine ⟨fun {H enc w base spare held n cs} hy hl => ?_⟩
  obtain ⟨y, hy⟩ := hy f (List.mem_singleton.2 rfl)
  obtain ⟨a, hK, hw⟩ := h.op hy
  rw [ho, h.sz, List.take_of_length_le (by rw [List.length_drop]; omega)] at hK
  exact ⟨a, hK, hw⟩
theorem OpF.cons {α β : Type} {f : Field} {fs : List Field} {off : Nat} {d : Kd α} {d2 : Kd β} {wf : α → Prop} {wf2 : β → Prop} (h : Op P f.type d wf) (ho : f.offset = off) (h2 : OpF P fs (off + d.sz) d2 wf2) : OpF P (f :: fs) off (Kd.pair d d2) (fun x => wf x.1 ∧ wf2 x.2) := by
  refine ⟨fun {H enc w base spare held n cs} hy hl => ?_⟩
  have hl' : cs.length = off + (d.sz + d2.sz) := hl
  obtain ⟨y, hy0⟩ := hy f List.mem_cons_self
  obtain ⟨a, hK, hw⟩ := h.op hy0
  obtain ⟨b, hK2, hw2⟩ := h2.op (fun f' hf => hy f' (List.mem_cons_of_mem _ hf)) (by omega : cs.length = off + d.sz + d2.sz)
  rw [ho, h.sz] at hK
  refine ⟨(a, b), ⟨_, _, ?_, hK, hK2⟩, hw, hw2⟩
  rw [← List.drop_drop]
  exact (List.take_append_drop _ _).symm
theorem Op.struct {α : Type} {fs : Array Field} {d : Kd α} {wf : α → Prop} (ht : P.underlying t = some (.struct fs)) (hc : P.cellsOf t = d.sz) (h : OpF P fs.toList 0 d wf) : Op P t d wf := by
  refine ⟨hc, fun {H enc w base spare held fuel cs x} hx => ?_⟩
  obtain ⟨xs, n, _, _, hl, hxl, hf⟩ := DataW.trod_struct ht hx
  obtain ⟨a, hK, hw⟩ := h.op (enc := enc) (w := w) (base := base) (spare := spare) (held := held) (n := n) (cs := cs) (fun f hfm => by
    obtain ⟨i, hi⟩ := List.getElem?_of_mem hfm
    have hlt : i < fs.size := by simpa using (List.getElem?_eq_some_iff.1 hi).1
    have := hf i f (by simpa using hi)
    rw [List.getElem?_eq_getElem (by omega)] at this
    exact ⟨_, this⟩) (by rw [hl, hc, Nat.zero_add])
  exact ⟨a, by simpa using hK, hw⟩
/-- An array of two. -/
theorem Op.two {α : Type} {d : Kd α} {wf : α → Prop} (ht : P.underlying t = some (.array 2 e)) (hc : P.cellsOf t = d.sz + d.sz) (h : Op P e d wf) : Op P t (Kd.pair d d) (fun x => wf x.1 ∧ wf x.2) := by
  refine ⟨hc, fun {H enc w base spare held fuel cs x} hx => ?_⟩
  obtain ⟨xs, n, _, _, hl, hxl, hf⟩ := DataW.trod_array ht hx
  have f0 := hf 0 (by decide)
  have f1 := hf 1 (by decide)
  rw [List.getElem?_eq_getElem (by omega)] at f0 f1
  obtain ⟨a, hK, hw⟩ := h.op f0
  obtain ⟨b, hK2, hw2⟩ := h.op f1
  rw [h.sz] at hK hK2
  rw [List.take_of_length_le (by rw [List.length_drop]; omega)] at hK2
  refine ⟨(a, b), ⟨_, _, ?_, hK, hK2⟩, hw, hw2⟩
  simp
/-- A whole argument. -/
theorem Op.arg {α : Type} {d : Kd α} {wf : α → Prop} (h : Op P t d wf) {H : Type} {enc : TypeId × Value → H} {w : World} {base : Nat} {spare : Nat → Bool} {held : Bool} {v : Value} {x : DataW H} {ps : List MemPlace} (hx : DataW.Trod enc P w base spare held t v x ps) : ∃ a, d.K w a v.cells.toList ∧ wf a := by
  obtain ⟨fuel, hf⟩ := hx
  exact h.op hf
end Go.Proofs.Ytagffnckmlfcnaa.NestW
