/-
  No cell of these rows narrows 'for every input' (looked for: loops, veiled, ifaces, maps, wideKeys, modest, calm, conditions, laid).
  DERIVED. THE GIVEN ROWS OF THIS SEAT. 9 by the template 'for every input the law returns true; each argument reads behind the call as it read before'; 0 by the template 'total and deterministic' (their statements: YthdlikiakegekaaTotals.lean).
  GIVEN WITH THE SEED: the statements are not yours to turn. If you find one false, say at which input.
  Laid BY PROGRAM, IN A SANDBOX (cutbox-rows.mjs): the forced cells as the released guide's own fill.sh prints them over the translation 7f520229c2589b78… (all of the seat's roots in one cut). By AI agents, Wed Nov 11 2026. No macro, syntax, notation, axiom, sorry.
-/
import Derived.Test.YthdlikiakegekaaChecked
import GoSem.Claim
import GoSem.ClaimJoined
import GoSem.ClaimMapViews
import Derived.JoinedTies
import Derived.KernelRfl
namespace Go.Proofs.Ythdlikiakegekaa
/- THE CELL 'sum', in the pinned program and in every row, IS THE sha256 OF THE DUMP (.gsa) THAT YthdlikiakegekaaProg.lean LOADS. Nothing in Lean hashes anything: it is a label: what it is worth is what the hold of that sum in a sandbox is worth. -/
noncomputable def Try.pinned : Pinned := { name := "ythdlikiakegekaa", sum := "7f520229c2589b78784c31a71124a0b461075f8887615a279fd376c32d8f54a6", checked := Try.checked }
namespace Rows
def none {H : Type} : Left H := { results := [], args := [] }

/-- 'splicerlaw29.HeaderPuts': WHATEVER THE INPUT: true; the input reads as it did. -/
def headerPutsSpec : ChangeSpec := { name := "headerPuts", fn := fun _ => fun
  | [d1, d2] => { results := [.lit (.bool true)], args := [d1, d2] }
  | _ => none }
def headerPutsRow : OpenClaim := { program := "ythdlikiakegekaa", sum := "7f520229c2589b78784c31a71124a0b461075f8887615a279fd376c32d8f54a6", func := "splicer/splicerlaw29.HeaderPuts", spec := "headerPuts", inPlace := ["internal/abi.NoEscape"], unfollowed := true, recurses := true, apart := false }
def HeaderPutsSaid : Prop := headerPutsRow.holds Try.pinned (OpenSpec.ofChange headerPutsSpec)

/-- ITS FALSE NEIGHBOUR: 'it returns false'. Refute it at one input. -/
def headerPutsWrong : ChangeSpec := { name := "headerPuts", fn := fun _ => fun
  | [d1, d2] => { results := [.lit (.bool false)], args := [d1, d2] }
  | _ => none }
def HeaderPutsWrongFalsely : Prop := headerPutsRow.holds Try.pinned (OpenSpec.ofChange headerPutsWrong)

/-- 'splicerlaw29.HeaderGets': WHATEVER THE INPUT: true; the input reads as it did. -/
def headerGetsSpec : ChangeSpec := { name := "headerGets", fn := fun _ => fun
  | [d] => { results := [.lit (.bool true)], args := [d] }
  | _ => none }
def headerGetsRow : OpenClaim := { program := "ythdlikiakegekaa", sum := "7f520229c2589b78784c31a71124a0b461075f8887615a279fd376c32d8f54a6", func := "splicer/splicerlaw29.HeaderGets", spec := "headerGets", inPlace := ["internal/abi.NoEscape"], unfollowed := true, recurses := true, apart := false }
def HeaderGetsSaid : Prop := headerGetsRow.holds Try.pinned (OpenSpec.ofChange headerGetsSpec)

/-- ITS FALSE NEIGHBOUR: 'it returns false'. Refute it at one input. -/
def headerGetsWrong : ChangeSpec := { name := "headerGets", fn := fun _ => fun
  | [d] => { results := [.lit (.bool false)], args := [d] }
  | _ => none }
def HeaderGetsWrongFalsely : Prop := headerGetsRow.holds Try.pinned (OpenSpec.ofChange headerGetsWrong)

/-- 'splicerlaw29.HeaderBack': WHATEVER THE INPUT: true; the input reads as it did. -/
def headerBackSpec : ChangeSpec := { name := "headerBack", fn := fun _ => fun
  | [d1, d2, d3, d4, d5] => { results := [.lit (.bool true)], args := [d1, d2, d3, d4, d5] }
  | _ => none }
def headerBackRow : OpenClaim := { program := "ythdlikiakegekaa", sum := "7f520229c2589b78784c31a71124a0b461075f8887615a279fd376c32d8f54a6", func := "splicer/splicerlaw29.HeaderBack", spec := "headerBack", inPlace := ["internal/abi.NoEscape"], unfollowed := true, recurses := true, apart := false }
def HeaderBackSaid : Prop := headerBackRow.holds Try.pinned (OpenSpec.ofChange headerBackSpec)

/-- ITS FALSE NEIGHBOUR: 'it returns false'. Refute it at one input. -/
def headerBackWrong : ChangeSpec := { name := "headerBack", fn := fun _ => fun
  | [d1, d2, d3, d4, d5] => { results := [.lit (.bool false)], args := [d1, d2, d3, d4, d5] }
  | _ => none }
def HeaderBackWrongFalsely : Prop := headerBackRow.holds Try.pinned (OpenSpec.ofChange headerBackWrong)

/-- 'splicerlaw32.IndexTells': WHATEVER THE INPUT: true; the input reads as it did. -/
def indexTellsSpec : ChangeSpec := { name := "indexTells", fn := fun _ => fun
  | [d1, d2] => { results := [.lit (.bool true)], args := [d1, d2] }
  | _ => none }
def indexTellsRow : OpenClaim := { program := "ythdlikiakegekaa", sum := "7f520229c2589b78784c31a71124a0b461075f8887615a279fd376c32d8f54a6", func := "splicer/splicerlaw32.IndexTells", spec := "indexTells", inPlace := ["internal/abi.NoEscape"], unfollowed := true, recurses := true, apart := false }
def IndexTellsSaid : Prop := indexTellsRow.holds Try.pinned (OpenSpec.ofChange indexTellsSpec)

/-- ITS FALSE NEIGHBOUR: 'it returns false'. Refute it at one input. -/
def indexTellsWrong : ChangeSpec := { name := "indexTells", fn := fun _ => fun
  | [d1, d2] => { results := [.lit (.bool false)], args := [d1, d2] }
  | _ => none }
def IndexTellsWrongFalsely : Prop := indexTellsRow.holds Try.pinned (OpenSpec.ofChange indexTellsWrong)

/-- 'splicerlaw32.IndexGets': WHATEVER THE INPUT: true; the input reads as it did. -/
def indexGetsSpec : ChangeSpec := { name := "indexGets", fn := fun _ => fun
  | [d1, d2] => { results := [.lit (.bool true)], args := [d1, d2] }
  | _ => none }
def indexGetsRow : OpenClaim := { program := "ythdlikiakegekaa", sum := "7f520229c2589b78784c31a71124a0b461075f8887615a279fd376c32d8f54a6", func := "splicer/splicerlaw32.IndexGets", spec := "indexGets", inPlace := ["internal/abi.NoEscape"], unfollowed := true, recurses := true, apart := false }
def IndexGetsSaid : Prop := indexGetsRow.holds Try.pinned (OpenSpec.ofChange indexGetsSpec)

/-- ITS FALSE NEIGHBOUR: 'it returns false'. Refute it at one input. -/
def indexGetsWrong : ChangeSpec := { name := "indexGets", fn := fun _ => fun
  | [d1, d2] => { results := [.lit (.bool false)], args := [d1, d2] }
  | _ => none }
def IndexGetsWrongFalsely : Prop := indexGetsRow.holds Try.pinned (OpenSpec.ofChange indexGetsWrong)

/-- 'splicerlaw32.IndexBack': WHATEVER THE INPUT: true; the input reads as it did. -/
def indexBackSpec : ChangeSpec := { name := "indexBack", fn := fun _ => fun
  | [d1, d2, d3] => { results := [.lit (.bool true)], args := [d1, d2, d3] }
  | _ => none }
def indexBackRow : OpenClaim := { program := "ythdlikiakegekaa", sum := "7f520229c2589b78784c31a71124a0b461075f8887615a279fd376c32d8f54a6", func := "splicer/splicerlaw32.IndexBack", spec := "indexBack", inPlace := ["internal/abi.NoEscape"], unfollowed := true, recurses := true, apart := false }
def IndexBackSaid : Prop := indexBackRow.holds Try.pinned (OpenSpec.ofChange indexBackSpec)

/-- ITS FALSE NEIGHBOUR: 'it returns false'. Refute it at one input. -/
def indexBackWrong : ChangeSpec := { name := "indexBack", fn := fun _ => fun
  | [d1, d2, d3] => { results := [.lit (.bool false)], args := [d1, d2, d3] }
  | _ => none }
def IndexBackWrongFalsely : Prop := indexBackRow.holds Try.pinned (OpenSpec.ofChange indexBackWrong)

/-- 'splicerlaw30.LaceGets': WHATEVER THE INPUT: true; the input reads as it did. -/
def laceGetsSpec : ChangeSpec := { name := "laceGets", fn := fun _ => fun
  | [d] => { results := [.lit (.bool true)], args := [d] }
  | _ => none }
def laceGetsRow : OpenClaim := { program := "ythdlikiakegekaa", sum := "7f520229c2589b78784c31a71124a0b461075f8887615a279fd376c32d8f54a6", func := "splicer/splicerlaw30.LaceGets", spec := "laceGets", inPlace := ["internal/abi.NoEscape", "internal/bytealg.MakeNoZero"], apart := false }
def LaceGetsSaid : Prop := laceGetsRow.holds Try.pinned (OpenSpec.ofChange laceGetsSpec)

/-- ITS FALSE NEIGHBOUR: 'it returns false'. Refute it at one input. -/
def laceGetsWrong : ChangeSpec := { name := "laceGets", fn := fun _ => fun
  | [d] => { results := [.lit (.bool false)], args := [d] }
  | _ => none }
def LaceGetsWrongFalsely : Prop := laceGetsRow.holds Try.pinned (OpenSpec.ofChange laceGetsWrong)

/-- 'splicerlaw30.LaceTells': WHATEVER THE INPUT: true; the input reads as it did. -/
def laceTellsSpec : ChangeSpec := { name := "laceTells", fn := fun _ => fun
  | [d] => { results := [.lit (.bool true)], args := [d] }
  | _ => none }
def laceTellsRow : OpenClaim := { program := "ythdlikiakegekaa", sum := "7f520229c2589b78784c31a71124a0b461075f8887615a279fd376c32d8f54a6", func := "splicer/splicerlaw30.LaceTells", spec := "laceTells", inPlace := ["internal/abi.NoEscape", "internal/bytealg.MakeNoZero"], apart := false }
def LaceTellsSaid : Prop := laceTellsRow.holds Try.pinned (OpenSpec.ofChange laceTellsSpec)

/-- ITS FALSE NEIGHBOUR: 'it returns false'. Refute it at one input. -/
def laceTellsWrong : ChangeSpec := { name := "laceTells", fn := fun _ => fun
  | [d] => { results := [.lit (.bool false)], args := [d] }
  | _ => none }
def LaceTellsWrongFalsely : Prop := laceTellsRow.holds Try.pinned (OpenSpec.ofChange laceTellsWrong)

/-- 'splicerlaw30.LaceBack': WHATEVER THE INPUT: true; the input reads as it did. -/
def laceBackSpec : ChangeSpec := { name := "laceBack", fn := fun _ => fun
  | [d] => { results := [.lit (.bool true)], args := [d] }
  | _ => none }
def laceBackRow : OpenClaim := { program := "ythdlikiakegekaa", sum := "7f520229c2589b78784c31a71124a0b461075f8887615a279fd376c32d8f54a6", func := "splicer/splicerlaw30.LaceBack", spec := "laceBack", inPlace := ["internal/abi.NoEscape", "internal/bytealg.MakeNoZero"], apart := false }
def LaceBackSaid : Prop := laceBackRow.holds Try.pinned (OpenSpec.ofChange laceBackSpec)

/-- ITS FALSE NEIGHBOUR: 'it returns false'. Refute it at one input. -/
def laceBackWrong : ChangeSpec := { name := "laceBack", fn := fun _ => fun
  | [d] => { results := [.lit (.bool false)], args := [d] }
  | _ => none }
def LaceBackWrongFalsely : Prop := laceBackRow.holds Try.pinned (OpenSpec.ofChange laceBackWrong)

/- THE SECOND FORM. 'bulk': how many values and letters a reading holds, each counted each time it is reached (what is shared counts as often as it is met; a slice's spare places count too). A statement '..UptoSaid' is the law's where the arguments, and the package variables that the reading takes, are together of bulk at most 1048576: NARROWER than '..Said'. Prove '..Said' where nothing that the law and all that it calls make is longer than what came in: it says more and counts as full. Else prove '..UptoSaid'. A law counts once. -/
mutual
def uptoBulk {H : Type} : DataW H → Nat
  | .lit (.string bytes) => bytes.length + 1
  | .lit _ => 1
  | .nil => 1
  | .ptr d => uptoBulk d + 1
  | .slice elems spare => uptoBulkAll elems + uptoBulkAll spare + 1
  | .agg parts => uptoBulkAll parts + 1
  | .iface _ d => uptoBulk d + 1
  | .map entries => uptoBulkEntries entries + 1
  | .held _ => 1
def uptoBulkAll {H : Type} : List (DataW H) → Nat
  | [] => 0
  | d :: r => uptoBulk d + uptoBulkAll r
def uptoBulkEntries {H : Type} : List (Lit × DataW H) → Nat
  | [] => 0
  | x :: r => uptoBulkEntry x + uptoBulkEntries r
def uptoBulkEntry {H : Type} : Lit × DataW H → Nat
  | (.string bytes, d) => bytes.length + uptoBulk d + 1
  | (_, d) => uptoBulk d + 1
 end
def uptoSmall : (H : Type) → List (DataW H) → Bool := fun _ ds => decide (uptoBulkAll ds ≤ 1048576)
def OpenSpec.upto (s : _root_.Go.ChangeSpec) : _root_.Go.OpenSpec := { _root_.Go.OpenSpec.ofChange s with cond := some uptoSmall }

/-- 'splicerlaw29.HeaderPuts', WHERE WHAT IT READS IS OF BULK AT MOST 1048576: true; the input reads as it did. -/
def headerPutsUptoRow : OpenClaim := { program := "ythdlikiakegekaa", sum := "7f520229c2589b78784c31a71124a0b461075f8887615a279fd376c32d8f54a6", func := "splicer/splicerlaw29.HeaderPuts", spec := "headerPuts", inPlace := ["internal/abi.NoEscape"], unfollowed := true, recurses := true, apart := false, narrowed := true }
def HeaderPutsUptoSaid : Prop := headerPutsUptoRow.holds Try.pinned (OpenSpec.upto headerPutsSpec)

/-- 'splicerlaw29.HeaderGets', WHERE WHAT IT READS IS OF BULK AT MOST 1048576: true; the input reads as it did. -/
def headerGetsUptoRow : OpenClaim := { program := "ythdlikiakegekaa", sum := "7f520229c2589b78784c31a71124a0b461075f8887615a279fd376c32d8f54a6", func := "splicer/splicerlaw29.HeaderGets", spec := "headerGets", inPlace := ["internal/abi.NoEscape"], unfollowed := true, recurses := true, apart := false, narrowed := true }
def HeaderGetsUptoSaid : Prop := headerGetsUptoRow.holds Try.pinned (OpenSpec.upto headerGetsSpec)

/-- 'splicerlaw29.HeaderBack', WHERE WHAT IT READS IS OF BULK AT MOST 1048576: true; the input reads as it did. -/
def headerBackUptoRow : OpenClaim := { program := "ythdlikiakegekaa", sum := "7f520229c2589b78784c31a71124a0b461075f8887615a279fd376c32d8f54a6", func := "splicer/splicerlaw29.HeaderBack", spec := "headerBack", inPlace := ["internal/abi.NoEscape"], unfollowed := true, recurses := true, apart := false, narrowed := true }
def HeaderBackUptoSaid : Prop := headerBackUptoRow.holds Try.pinned (OpenSpec.upto headerBackSpec)

/-- 'splicerlaw32.IndexTells', WHERE WHAT IT READS IS OF BULK AT MOST 1048576: true; the input reads as it did. -/
def indexTellsUptoRow : OpenClaim := { program := "ythdlikiakegekaa", sum := "7f520229c2589b78784c31a71124a0b461075f8887615a279fd376c32d8f54a6", func := "splicer/splicerlaw32.IndexTells", spec := "indexTells", inPlace := ["internal/abi.NoEscape"], unfollowed := true, recurses := true, apart := false, narrowed := true }
def IndexTellsUptoSaid : Prop := indexTellsUptoRow.holds Try.pinned (OpenSpec.upto indexTellsSpec)

/-- 'splicerlaw32.IndexGets', WHERE WHAT IT READS IS OF BULK AT MOST 1048576: true; the input reads as it did. -/
def indexGetsUptoRow : OpenClaim := { program := "ythdlikiakegekaa", sum := "7f520229c2589b78784c31a71124a0b461075f8887615a279fd376c32d8f54a6", func := "splicer/splicerlaw32.IndexGets", spec := "indexGets", inPlace := ["internal/abi.NoEscape"], unfollowed := true, recurses := true, apart := false, narrowed := true }
def IndexGetsUptoSaid : Prop := indexGetsUptoRow.holds Try.pinned (OpenSpec.upto indexGetsSpec)

/-- 'splicerlaw32.IndexBack', WHERE WHAT IT READS IS OF BULK AT MOST 1048576: true; the input reads as it did. -/
def indexBackUptoRow : OpenClaim := { program := "ythdlikiakegekaa", sum := "7f520229c2589b78784c31a71124a0b461075f8887615a279fd376c32d8f54a6", func := "splicer/splicerlaw32.IndexBack", spec := "indexBack", inPlace := ["internal/abi.NoEscape"], unfollowed := true, recurses := true, apart := false, narrowed := true }
def IndexBackUptoSaid : Prop := indexBackUptoRow.holds Try.pinned (OpenSpec.upto indexBackSpec)

/-- 'splicerlaw30.LaceGets', WHERE WHAT IT READS IS OF BULK AT MOST 1048576: true; the input reads as it did. -/
def laceGetsUptoRow : OpenClaim := { program := "ythdlikiakegekaa", sum := "7f520229c2589b78784c31a71124a0b461075f8887615a279fd376c32d8f54a6", func := "splicer/splicerlaw30.LaceGets", spec := "laceGets", inPlace := ["internal/abi.NoEscape", "internal/bytealg.MakeNoZero"], apart := false, narrowed := true }
def LaceGetsUptoSaid : Prop := laceGetsUptoRow.holds Try.pinned (OpenSpec.upto laceGetsSpec)

/-- 'splicerlaw30.LaceTells', WHERE WHAT IT READS IS OF BULK AT MOST 1048576: true; the input reads as it did. -/
def laceTellsUptoRow : OpenClaim := { program := "ythdlikiakegekaa", sum := "7f520229c2589b78784c31a71124a0b461075f8887615a279fd376c32d8f54a6", func := "splicer/splicerlaw30.LaceTells", spec := "laceTells", inPlace := ["internal/abi.NoEscape", "internal/bytealg.MakeNoZero"], apart := false, narrowed := true }
def LaceTellsUptoSaid : Prop := laceTellsUptoRow.holds Try.pinned (OpenSpec.upto laceTellsSpec)

/-- 'splicerlaw30.LaceBack', WHERE WHAT IT READS IS OF BULK AT MOST 1048576: true; the input reads as it did. -/
def laceBackUptoRow : OpenClaim := { program := "ythdlikiakegekaa", sum := "7f520229c2589b78784c31a71124a0b461075f8887615a279fd376c32d8f54a6", func := "splicer/splicerlaw30.LaceBack", spec := "laceBack", inPlace := ["internal/abi.NoEscape", "internal/bytealg.MakeNoZero"], apart := false, narrowed := true }
def LaceBackUptoSaid : Prop := laceBackUptoRow.holds Try.pinned (OpenSpec.upto laceBackSpec)

end Rows
end Go.Proofs.Ythdlikiakegekaa
