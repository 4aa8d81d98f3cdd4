import Derived.Test.YthdlikiakegekaaCrcW
/-! The table as a row that is made, and read: how the printed texts take it. -/
namespace Go.Proofs.Ythdlikiakegekaa.CrcX
open Go.RowKit Go.Proofs.YthdlikiakegekaaW.PrintWords Go.Proofs.YthdlikiakegekaaW.PrintLast Go.Proofs.YthdlikiakegekaaW.PrintMore Go.Proofs.Ythdlikiakegekaa.CrcLem Go.Proofs.Ythdlikiakegekaa.CrcW
def crcTab : List Int := (List.range 256).map fun j => ((entryN j : Nat) : Int)
theorem crcTab_length : crcTab.length = 256 := by simp [crcTab]
theorem crcTab_get (j : Nat) (h : j < 256) : crcTab[j]? = some ((entryN j : Nat) : Int) := by simp [crcTab, h]
/-- The pointer to a row's first cell. -/
def tbp : Value → Value
  | .slice a _ _ => .pointer a
  | v => v
@[go_sem, simp] theorem tbp_slice (a : Option Addr) (n c : Nat) : tbp (.slice a n c) = .pointer a := rfl
theorem upto_list : (upto 256).toList = crcTab.map (Value.int .u32) := by
  apply List.ext_getElem?
  intro j
  by_cases h : j < 256
  · have e := upto_get 256 j h
    rw [if_pos h] at e
    rw [List.getElem?_map, crcTab_get j h, Array.getElem?_toList, e]; rfl
  · rw [List.getElem?_eq_none (by rw [Array.length_toList, upto_size]; omega), List.getElem?_eq_none (by rw [List.length_map, crcTab_length]; omega)]
theorem row_of (l : List Int) (W : World) (base g e : Nat) (cur : Array Value) (hg : base ≤ g) (hh : W.heap[g]? = some (.cells cur e (0, 0))) (hcur : cur.toList = l.map (Value.int .u32)) (hl : l.length ≤ maxLen) :
    Kd.R (Kd.int .u32) e W base (fun _ => True) (.slice (some ⟨g, 0, none⟩) l.length l.length) l := by
  have hs : cur.size = l.length := by rw [← Array.length_toList, hcur, List.length_map]
  refine ⟨fun _ _ => trivial, l.map (Value.int .u32), ⟨?_, .inr ⟨g, l.length, cur, rfl, hg, hh, Nat.le_refl _, hl, ?_, ?_⟩⟩, ?_, fun j p hp => ?_⟩
  · show (l.map _).length = l.length * 1; rw [List.length_map]; omega
  · show cur.size = l.length * 1; omega
  · rw [hcur]
    exact List.take_of_length_le (by rw [List.length_map]; show l.length ≤ l.length * 1; omega)
  · show (l.map _).length = l.length * 1; rw [List.length_map]; omega
  · obtain ⟨hl, rfl⟩ := List.getElem?_eq_some_iff.1 hp
    show ((l.map (Value.int .u32)).drop (j * 1)).take 1 = [_]
    rw [Nat.mul_one, ← List.map_drop, List.drop_eq_getElem_cons hl]; rfl
theorem make_row (w : World) : Calls Try.prog 13 #[] w fun e w' => ∃ v0_ : Value, e = .returned (tbp v0_) ∧ Kd.R (Kd.int .u32) 87 w' w.heap.size (fun _ => True) v0_ crcTab ∧ Below w.heap.size w w' := by
  refine (make_is w).mono ?_
  rintro e w1 ⟨rfl, rfl⟩
  have hu := upto_list
  have hn : crcTab.length ≤ maxLen := by rw [crcTab_length]; decide
  generalize crcTab = l at *
  generalize upto 256 = cur at *
  refine ⟨_, ?_, row_of l _ w.heap.size w.heap.size 87 cur (Nat.le_refl _) ?_ hu hn, (Below.refl _ _).alloc (Nat.le_refl _) _⟩
  · rfl
  · exact Array.getElem?_push_size
theorem tab_at {w : World} {A0 : Option Addr} (h : Kd.C (Kd.int .u32) w A0 crcTab.length crcTab) : ∃ a, A0 = some a ∧ ∀ i : Nat, i < 256 → w.cell? (a.add i) = some (.int .u32 (entryN i : Int)) := by
  obtain ⟨_, _, h3⟩ := h
  obtain ⟨a, rfl, hc⟩ := h3 (by rw [crcTab_length]; decide)
  refine ⟨a, rfl, fun i hi => ?_⟩
  obtain ⟨c, hl, hk, hcell⟩ := hc i _ (crcTab_get i hi)
  have hk' : c = [.int .u32 ((entryN i : Nat) : Int)] := hk
  subst hk'
  have := hcell 0 _ rfl
  have e : i * (Kd.int .u32).sz + 0 = i := by show i * 1 + 0 = i; omega
  rwa [e] at this
end Go.Proofs.Ythdlikiakegekaa.CrcX
