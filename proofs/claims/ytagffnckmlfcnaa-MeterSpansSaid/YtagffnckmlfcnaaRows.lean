/-
  No cell of these rows narrows 'for every input' (looked for: loops, veiled, ifaces, maps, wideKeys, modest, calm, conditions, laid).
  DERIVED. THE GIVEN ROWS OF THIS SEAT. 6 by the template 'for every input the law returns true; each argument reads behind the call as it read before'; 0 by the template 'total and deterministic' (their statements: YtagffnckmlfcnaaTotals.lean).
  GIVEN WITH THE SEED: the statements are not yours to turn. If you find one false, say at which input.
  Laid BY PROGRAM, IN A SANDBOX (cutbox-rows.mjs): the forced cells as the released guide's own fill.sh prints them over the translation 6201ccaab87350eb… (all of the seat's roots in one cut). By AI agents, Wed Nov 11 2026. No macro, syntax, notation, axiom, sorry.
-/
import Derived.Test.YtagffnckmlfcnaaChecked
import GoSem.Claim
import GoSem.ClaimJoined
import GoSem.ClaimMapViews
import Derived.JoinedTies
import Derived.KernelRfl
namespace Go.Proofs.Ytagffnckmlfcnaa
/- THE CELL 'sum', in the pinned program and in every row, IS THE sha256 OF THE DUMP (.gsa) THAT YtagffnckmlfcnaaProg.lean LOADS. Nothing in Lean hashes anything: it is a label: what it is worth is what the hold of that sum in a sandbox is worth. -/
noncomputable def Try.pinned : Pinned := { name := "ytagffnckmlfcnaa", sum := "6201ccaab87350ebc4ff6ec1e5e1620eda928c6208706dbc0e115de1902d8787", checked := Try.checked }
namespace Rows
def none {H : Type} : Left H := { results := [], args := [] }

/-- 'splicerlaw47.MeterSpans': WHATEVER THE INPUT: true; the input reads as it did. -/
def meterSpansSpec : ChangeSpec := { name := "meterSpans", fn := fun _ => fun
  | [d1, d2, d3] => { results := [.lit (.bool true)], args := [d1, d2, d3] }
  | _ => none }
def meterSpansRow : OpenClaim := { program := "ytagffnckmlfcnaa", sum := "6201ccaab87350ebc4ff6ec1e5e1620eda928c6208706dbc0e115de1902d8787", func := "splicer/splicerlaw47.MeterSpans", spec := "meterSpans", unfollowed := true, recurses := true, apart := false }
def MeterSpansSaid : Prop := meterSpansRow.holds Try.pinned (OpenSpec.ofChange meterSpansSpec)

/-- ITS FALSE NEIGHBOUR: 'it returns false'. Refute it at one input. -/
def meterSpansWrong : ChangeSpec := { name := "meterSpans", fn := fun _ => fun
  | [d1, d2, d3] => { results := [.lit (.bool false)], args := [d1, d2, d3] }
  | _ => none }
def MeterSpansWrongFalsely : Prop := meterSpansRow.holds Try.pinned (OpenSpec.ofChange meterSpansWrong)

/-- 'splicerlaw47.MeterTells': WHATEVER THE INPUT: true; the input reads as it did. -/
def meterTellsSpec : ChangeSpec := { name := "meterTells", fn := fun _ => fun
  | [d1, d2, d3] => { results := [.lit (.bool true)], args := [d1, d2, d3] }
  | _ => none }
def meterTellsRow : OpenClaim := { program := "ytagffnckmlfcnaa", sum := "6201ccaab87350ebc4ff6ec1e5e1620eda928c6208706dbc0e115de1902d8787", func := "splicer/splicerlaw47.MeterTells", spec := "meterTells", unfollowed := true, recurses := true, apart := false }
def MeterTellsSaid : Prop := meterTellsRow.holds Try.pinned (OpenSpec.ofChange meterTellsSpec)

/-- ITS FALSE NEIGHBOUR: 'it returns false'. Refute it at one input. -/
def meterTellsWrong : ChangeSpec := { name := "meterTells", fn := fun _ => fun
  | [d1, d2, d3] => { results := [.lit (.bool false)], args := [d1, d2, d3] }
  | _ => none }
def MeterTellsWrongFalsely : Prop := meterTellsRow.holds Try.pinned (OpenSpec.ofChange meterTellsWrong)

/-- 'splicerlaw56.MixJoins': WHATEVER THE INPUT: true; the input reads as it did. -/
def mixJoinsSpec : ChangeSpec := { name := "mixJoins", fn := fun _ => fun
  | [d1, d2, d3, d4, d5] => { results := [.lit (.bool true)], args := [d1, d2, d3, d4, d5] }
  | _ => none }
def mixJoinsRow : OpenClaim := { program := "ytagffnckmlfcnaa", sum := "6201ccaab87350ebc4ff6ec1e5e1620eda928c6208706dbc0e115de1902d8787", func := "splicer/splicerlaw56.MixJoins", spec := "mixJoins", unfollowed := true, recurses := true, apart := false }
def MixJoinsSaid : Prop := mixJoinsRow.holds Try.pinned (OpenSpec.ofChange mixJoinsSpec)

/-- ITS FALSE NEIGHBOUR: 'it returns false'. Refute it at one input. -/
def mixJoinsWrong : ChangeSpec := { name := "mixJoins", fn := fun _ => fun
  | [d1, d2, d3, d4, d5] => { results := [.lit (.bool false)], args := [d1, d2, d3, d4, d5] }
  | _ => none }
def MixJoinsWrongFalsely : Prop := mixJoinsRow.holds Try.pinned (OpenSpec.ofChange mixJoinsWrong)

/-- 'splicerlaw56.MixStays': WHATEVER THE INPUT: true; the input reads as it did. -/
def mixStaysSpec : ChangeSpec := { name := "mixStays", fn := fun _ => fun
  | [d1, d2, d3, d4] => { results := [.lit (.bool true)], args := [d1, d2, d3, d4] }
  | _ => none }
def mixStaysRow : OpenClaim := { program := "ytagffnckmlfcnaa", sum := "6201ccaab87350ebc4ff6ec1e5e1620eda928c6208706dbc0e115de1902d8787", func := "splicer/splicerlaw56.MixStays", spec := "mixStays", unfollowed := true, recurses := true, apart := false }
def MixStaysSaid : Prop := mixStaysRow.holds Try.pinned (OpenSpec.ofChange mixStaysSpec)

/-- ITS FALSE NEIGHBOUR: 'it returns false'. Refute it at one input. -/
def mixStaysWrong : ChangeSpec := { name := "mixStays", fn := fun _ => fun
  | [d1, d2, d3, d4] => { results := [.lit (.bool false)], args := [d1, d2, d3, d4] }
  | _ => none }
def MixStaysWrongFalsely : Prop := mixStaysRow.holds Try.pinned (OpenSpec.ofChange mixStaysWrong)

/-- 'splicerlaw56.MixTurns': WHATEVER THE INPUT: true; the input reads as it did. -/
def mixTurnsSpec : ChangeSpec := { name := "mixTurns", fn := fun _ => fun
  | [d1, d2, d3] => { results := [.lit (.bool true)], args := [d1, d2, d3] }
  | _ => none }
def mixTurnsRow : OpenClaim := { program := "ytagffnckmlfcnaa", sum := "6201ccaab87350ebc4ff6ec1e5e1620eda928c6208706dbc0e115de1902d8787", func := "splicer/splicerlaw56.MixTurns", spec := "mixTurns", unfollowed := true, recurses := true, apart := false }
def MixTurnsSaid : Prop := mixTurnsRow.holds Try.pinned (OpenSpec.ofChange mixTurnsSpec)

/-- ITS FALSE NEIGHBOUR: 'it returns false'. Refute it at one input. -/
def mixTurnsWrong : ChangeSpec := { name := "mixTurns", fn := fun _ => fun
  | [d1, d2, d3] => { results := [.lit (.bool false)], args := [d1, d2, d3] }
  | _ => none }
def MixTurnsWrongFalsely : Prop := mixTurnsRow.holds Try.pinned (OpenSpec.ofChange mixTurnsWrong)

/-- 'splicerlaw47.MeterCharts': WHATEVER THE INPUT: true; the input reads as it did. -/
def meterChartsSpec : ChangeSpec := { name := "meterCharts", fn := fun _ => fun
  | [d1, d2, d3, d4, d5] => { results := [.lit (.bool true)], args := [d1, d2, d3, d4, d5] }
  | _ => none }
def meterChartsRow : OpenClaim := { program := "ytagffnckmlfcnaa", sum := "6201ccaab87350ebc4ff6ec1e5e1620eda928c6208706dbc0e115de1902d8787", func := "splicer/splicerlaw47.MeterCharts", spec := "meterCharts", inPlace := ["internal/abi.NoEscape", "internal/bytealg.MakeNoZero"], unfollowed := true, recurses := true, apart := false }
def MeterChartsSaid : Prop := meterChartsRow.holds Try.pinned (OpenSpec.ofChange meterChartsSpec)

/-- ITS FALSE NEIGHBOUR: 'it returns false'. Refute it at one input. -/
def meterChartsWrong : ChangeSpec := { name := "meterCharts", fn := fun _ => fun
  | [d1, d2, d3, d4, d5] => { results := [.lit (.bool false)], args := [d1, d2, d3, d4, d5] }
  | _ => none }
def MeterChartsWrongFalsely : Prop := meterChartsRow.holds Try.pinned (OpenSpec.ofChange meterChartsWrong)

/- THE SECOND FORM. 'bulk': how many values and letters a reading holds, each counted each time it is reached (what is shared counts as often as it is met; a slice's spare places count too). A statement '..UptoSaid' is the law's where the arguments, and the package variables that the reading takes, are together of bulk at most 1048576: NARROWER than '..Said'. Prove '..Said' where nothing that the law and all that it calls make is longer than what came in: it says more and counts as full. Else prove '..UptoSaid'. A law counts once. -/
mutual
def uptoBulk {H : Type} : DataW H → Nat
  | .lit (.string bytes) => bytes.length + 1
  | .lit _ => 1
  | .nil => 1
  | .ptr d => uptoBulk d + 1
  | .slice elems spare => uptoBulkAll elems + uptoBulkAll spare + 1
  | .agg parts => uptoBulkAll parts + 1
  | .iface _ d => uptoBulk d + 1
  | .map entries => uptoBulkEntries entries + 1
  | .held _ => 1
def uptoBulkAll {H : Type} : List (DataW H) → Nat
  | [] => 0
  | d :: r => uptoBulk d + uptoBulkAll r
def uptoBulkEntries {H : Type} : List (Lit × DataW H) → Nat
  | [] => 0
  | x :: r => uptoBulkEntry x + uptoBulkEntries r
def uptoBulkEntry {H : Type} : Lit × DataW H → Nat
  | (.string bytes, d) => bytes.length + uptoBulk d + 1
  | (_, d) => uptoBulk d + 1
 end
def uptoSmall : (H : Type) → List (DataW H) → Bool := fun _ ds => decide (uptoBulkAll ds ≤ 1048576)
def OpenSpec.upto (s : _root_.Go.ChangeSpec) : _root_.Go.OpenSpec := { _root_.Go.OpenSpec.ofChange s with cond := some uptoSmall }

/-- 'splicerlaw47.MeterSpans', WHERE WHAT IT READS IS OF BULK AT MOST 1048576: true; the input reads as it did. -/
def meterSpansUptoRow : OpenClaim := { program := "ytagffnckmlfcnaa", sum := "6201ccaab87350ebc4ff6ec1e5e1620eda928c6208706dbc0e115de1902d8787", func := "splicer/splicerlaw47.MeterSpans", spec := "meterSpans", unfollowed := true, recurses := true, apart := false, narrowed := true }
def MeterSpansUptoSaid : Prop := meterSpansUptoRow.holds Try.pinned (OpenSpec.upto meterSpansSpec)

/-- 'splicerlaw47.MeterTells', WHERE WHAT IT READS IS OF BULK AT MOST 1048576: true; the input reads as it did. -/
def meterTellsUptoRow : OpenClaim := { program := "ytagffnckmlfcnaa", sum := "6201ccaab87350ebc4ff6ec1e5e1620eda928c6208706dbc0e115de1902d8787", func := "splicer/splicerlaw47.MeterTells", spec := "meterTells", unfollowed := true, recurses := true, apart := false, narrowed := true }
def MeterTellsUptoSaid : Prop := meterTellsUptoRow.holds Try.pinned (OpenSpec.upto meterTellsSpec)

/-- 'splicerlaw56.MixJoins', WHERE WHAT IT READS IS OF BULK AT MOST 1048576: true; the input reads as it did. -/
def mixJoinsUptoRow : OpenClaim := { program := "ytagffnckmlfcnaa", sum := "6201ccaab87350ebc4ff6ec1e5e1620eda928c6208706dbc0e115de1902d8787", func := "splicer/splicerlaw56.MixJoins", spec := "mixJoins", unfollowed := true, recurses := true, apart := false, narrowed := true }
def MixJoinsUptoSaid : Prop := mixJoinsUptoRow.holds Try.pinned (OpenSpec.upto mixJoinsSpec)

/-- 'splicerlaw56.MixStays', WHERE WHAT IT READS IS OF BULK AT MOST 1048576: true; the input reads as it did. -/
def mixStaysUptoRow : OpenClaim := { program := "ytagffnckmlfcnaa", sum := "6201ccaab87350ebc4ff6ec1e5e1620eda928c6208706dbc0e115de1902d8787", func := "splicer/splicerlaw56.MixStays", spec := "mixStays", unfollowed := true, recurses := true, apart := false, narrowed := true }
def MixStaysUptoSaid : Prop := mixStaysUptoRow.holds Try.pinned (OpenSpec.upto mixStaysSpec)

/-- 'splicerlaw56.MixTurns', WHERE WHAT IT READS IS OF BULK AT MOST 1048576: true; the input reads as it did. -/
def mixTurnsUptoRow : OpenClaim := { program := "ytagffnckmlfcnaa", sum := "6201ccaab87350ebc4ff6ec1e5e1620eda928c6208706dbc0e115de1902d8787", func := "splicer/splicerlaw56.MixTurns", spec := "mixTurns", unfollowed := true, recurses := true, apart := false, narrowed := true }
def MixTurnsUptoSaid : Prop := mixTurnsUptoRow.holds Try.pinned (OpenSpec.upto mixTurnsSpec)

/-- 'splicerlaw47.MeterCharts', WHERE WHAT IT READS IS OF BULK AT MOST 1048576: true; the input reads as it did. -/
def meterChartsUptoRow : OpenClaim := { program := "ytagffnckmlfcnaa", sum := "6201ccaab87350ebc4ff6ec1e5e1620eda928c6208706dbc0e115de1902d8787", func := "splicer/splicerlaw47.MeterCharts", spec := "meterCharts", inPlace := ["internal/abi.NoEscape", "internal/bytealg.MakeNoZero"], unfollowed := true, recurses := true, apart := false, narrowed := true }
def MeterChartsUptoSaid : Prop := meterChartsUptoRow.holds Try.pinned (OpenSpec.upto meterChartsSpec)

end Rows
end Go.Proofs.Ytagffnckmlfcnaa
