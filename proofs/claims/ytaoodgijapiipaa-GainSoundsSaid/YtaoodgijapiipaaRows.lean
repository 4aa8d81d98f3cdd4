/-
  No cell of these rows narrows 'for every input' (looked for: loops, veiled, ifaces, maps, wideKeys, modest, calm, conditions, laid).
  DERIVED. THE GIVEN ROWS OF THIS SEAT. 8 by the template 'for every input the law returns true; each argument reads behind the call as it read before'; 0 by the template 'total and deterministic' (their statements: YtaoodgijapiipaaTotals.lean).
  GIVEN WITH THE SEED: the statements are not yours to turn. If you find one false, say at which input.
  Laid BY PROGRAM, IN A SANDBOX (cutbox-rows.mjs): the forced cells as the released guide's own fill.sh prints them over the translation 59bd64639939bbc7… (all of the seat's roots in one cut). By AI agents, Wed Nov 11 2026. No macro, syntax, notation, axiom, sorry.
-/
import Derived.Test.YtaoodgijapiipaaChecked
import GoSem.Claim
import GoSem.ClaimJoined
import GoSem.ClaimMapViews
import Derived.JoinedTies
import Derived.KernelRfl
namespace Go.Proofs.Ytaoodgijapiipaa
/- THE CELL 'sum', in the pinned program and in every row, IS THE sha256 OF THE DUMP (.gsa) THAT YtaoodgijapiipaaProg.lean LOADS. Nothing in Lean hashes anything: it is a label: what it is worth is what the hold of that sum in a sandbox is worth. -/
noncomputable def Try.pinned : Pinned := { name := "ytaoodgijapiipaa", sum := "59bd64639939bbc74dc5d091728d974296694f9cb83467e992b536797abd4cba", checked := Try.checked }
namespace Rows
def none {H : Type} : Left H := { results := [], args := [] }

/-- 'splicerlaw02.OctetReads': WHATEVER THE INPUT: true; the input reads as it did. -/
def octetReadsSpec : ChangeSpec := { name := "octetReads", fn := fun _ => fun
  | [d1, d2] => { results := [.lit (.bool true)], args := [d1, d2] }
  | _ => none }
def octetReadsRow : OpenClaim := { program := "ytaoodgijapiipaa", sum := "59bd64639939bbc74dc5d091728d974296694f9cb83467e992b536797abd4cba", func := "splicer/splicerlaw02.OctetReads", spec := "octetReads", inPlace := ["internal/abi.NoEscape"], apart := false }
def OctetReadsSaid : Prop := octetReadsRow.holds Try.pinned (OpenSpec.ofChange octetReadsSpec)

/-- ITS FALSE NEIGHBOUR: 'it returns false'. Refute it at one input. -/
def octetReadsWrong : ChangeSpec := { name := "octetReads", fn := fun _ => fun
  | [d1, d2] => { results := [.lit (.bool false)], args := [d1, d2] }
  | _ => none }
def OctetReadsWrongFalsely : Prop := octetReadsRow.holds Try.pinned (OpenSpec.ofChange octetReadsWrong)

/-- 'splicerlaw02.OctetBack': WHATEVER THE INPUT: true; the input reads as it did. -/
def octetBackSpec : ChangeSpec := { name := "octetBack", fn := fun _ => fun
  | [d] => { results := [.lit (.bool true)], args := [d] }
  | _ => none }
def octetBackRow : OpenClaim := { program := "ytaoodgijapiipaa", sum := "59bd64639939bbc74dc5d091728d974296694f9cb83467e992b536797abd4cba", func := "splicer/splicerlaw02.OctetBack", spec := "octetBack", inPlace := ["internal/abi.NoEscape"], apart := false }
def OctetBackSaid : Prop := octetBackRow.holds Try.pinned (OpenSpec.ofChange octetBackSpec)

/-- ITS FALSE NEIGHBOUR: 'it returns false'. Refute it at one input. -/
def octetBackWrong : ChangeSpec := { name := "octetBack", fn := fun _ => fun
  | [d] => { results := [.lit (.bool false)], args := [d] }
  | _ => none }
def OctetBackWrongFalsely : Prop := octetBackRow.holds Try.pinned (OpenSpec.ofChange octetBackWrong)

/-- 'splicerlaw02.OctetWrites': WHATEVER THE INPUT: true; the input reads as it did. -/
def octetWritesSpec : ChangeSpec := { name := "octetWrites", fn := fun _ => fun
  | [d1, d2] => { results := [.lit (.bool true)], args := [d1, d2] }
  | _ => none }
def octetWritesRow : OpenClaim := { program := "ytaoodgijapiipaa", sum := "59bd64639939bbc74dc5d091728d974296694f9cb83467e992b536797abd4cba", func := "splicer/splicerlaw02.OctetWrites", spec := "octetWrites", inPlace := ["internal/abi.NoEscape"], apart := false }
def OctetWritesSaid : Prop := octetWritesRow.holds Try.pinned (OpenSpec.ofChange octetWritesSpec)

/-- ITS FALSE NEIGHBOUR: 'it returns false'. Refute it at one input. -/
def octetWritesWrong : ChangeSpec := { name := "octetWrites", fn := fun _ => fun
  | [d1, d2] => { results := [.lit (.bool false)], args := [d1, d2] }
  | _ => none }
def OctetWritesWrongFalsely : Prop := octetWritesRow.holds Try.pinned (OpenSpec.ofChange octetWritesWrong)

/-- 'splicerlaw02.OctetNobody': WHATEVER THE INPUT: true; the input reads as it did. -/
def octetNobodySpec : ChangeSpec := { name := "octetNobody", fn := fun _ => fun
  | [d1, d2] => { results := [.lit (.bool true)], args := [d1, d2] }
  | _ => none }
def octetNobodyRow : OpenClaim := { program := "ytaoodgijapiipaa", sum := "59bd64639939bbc74dc5d091728d974296694f9cb83467e992b536797abd4cba", func := "splicer/splicerlaw02.OctetNobody", spec := "octetNobody", inPlace := ["internal/abi.NoEscape"], apart := false }
def OctetNobodySaid : Prop := octetNobodyRow.holds Try.pinned (OpenSpec.ofChange octetNobodySpec)

/-- ITS FALSE NEIGHBOUR: 'it returns false'. Refute it at one input. -/
def octetNobodyWrong : ChangeSpec := { name := "octetNobody", fn := fun _ => fun
  | [d1, d2] => { results := [.lit (.bool false)], args := [d1, d2] }
  | _ => none }
def OctetNobodyWrongFalsely : Prop := octetNobodyRow.holds Try.pinned (OpenSpec.ofChange octetNobodyWrong)

/-- 'splicerlaw25.GainFades': WHATEVER THE INPUT: true; the input reads as it did. -/
def gainFadesSpec : ChangeSpec := { name := "gainFades", fn := fun _ => fun
  | [d1, d2, d3, d4] => { results := [.lit (.bool true)], args := [d1, d2, d3, d4] }
  | _ => none }
def gainFadesRow : OpenClaim := { program := "ytaoodgijapiipaa", sum := "59bd64639939bbc74dc5d091728d974296694f9cb83467e992b536797abd4cba", func := "splicer/splicerlaw25.GainFades", spec := "gainFades", unfollowed := true, recurses := true, apart := false }
def GainFadesSaid : Prop := gainFadesRow.holds Try.pinned (OpenSpec.ofChange gainFadesSpec)

/-- ITS FALSE NEIGHBOUR: 'it returns false'. Refute it at one input. -/
def gainFadesWrong : ChangeSpec := { name := "gainFades", fn := fun _ => fun
  | [d1, d2, d3, d4] => { results := [.lit (.bool false)], args := [d1, d2, d3, d4] }
  | _ => none }
def GainFadesWrongFalsely : Prop := gainFadesRow.holds Try.pinned (OpenSpec.ofChange gainFadesWrong)

/-- 'splicerlaw25.GainSounds': WHATEVER THE INPUT: true; the input reads as it did. -/
def gainSoundsSpec : ChangeSpec := { name := "gainSounds", fn := fun _ => fun
  | [d1, d2] => { results := [.lit (.bool true)], args := [d1, d2] }
  | _ => none }
def gainSoundsRow : OpenClaim := { program := "ytaoodgijapiipaa", sum := "59bd64639939bbc74dc5d091728d974296694f9cb83467e992b536797abd4cba", func := "splicer/splicerlaw25.GainSounds", spec := "gainSounds", unfollowed := true, recurses := true, apart := false }
def GainSoundsSaid : Prop := gainSoundsRow.holds Try.pinned (OpenSpec.ofChange gainSoundsSpec)

/-- ITS FALSE NEIGHBOUR: 'it returns false'. Refute it at one input. -/
def gainSoundsWrong : ChangeSpec := { name := "gainSounds", fn := fun _ => fun
  | [d1, d2] => { results := [.lit (.bool false)], args := [d1, d2] }
  | _ => none }
def GainSoundsWrongFalsely : Prop := gainSoundsRow.holds Try.pinned (OpenSpec.ofChange gainSoundsWrong)

/-- 'splicerlaw25.GainGoes': WHATEVER THE INPUT: true; the input reads as it did. -/
def gainGoesSpec : ChangeSpec := { name := "gainGoes", fn := fun _ => fun
  | [d1, d2, d3, d4, d5] => { results := [.lit (.bool true)], args := [d1, d2, d3, d4, d5] }
  | _ => none }
def gainGoesRow : OpenClaim := { program := "ytaoodgijapiipaa", sum := "59bd64639939bbc74dc5d091728d974296694f9cb83467e992b536797abd4cba", func := "splicer/splicerlaw25.GainGoes", spec := "gainGoes", unfollowed := true, recurses := true, apart := false }
def GainGoesSaid : Prop := gainGoesRow.holds Try.pinned (OpenSpec.ofChange gainGoesSpec)

/-- ITS FALSE NEIGHBOUR: 'it returns false'. Refute it at one input. -/
def gainGoesWrong : ChangeSpec := { name := "gainGoes", fn := fun _ => fun
  | [d1, d2, d3, d4, d5] => { results := [.lit (.bool false)], args := [d1, d2, d3, d4, d5] }
  | _ => none }
def GainGoesWrongFalsely : Prop := gainGoesRow.holds Try.pinned (OpenSpec.ofChange gainGoesWrong)

/-- 'splicerlaw25.GainZero': WHATEVER THE INPUT: true; the input reads as it did. -/
def gainZeroSpec : ChangeSpec := { name := "gainZero", fn := fun _ => fun
  | [d1, d2] => { results := [.lit (.bool true)], args := [d1, d2] }
  | _ => none }
def gainZeroRow : OpenClaim := { program := "ytaoodgijapiipaa", sum := "59bd64639939bbc74dc5d091728d974296694f9cb83467e992b536797abd4cba", func := "splicer/splicerlaw25.GainZero", spec := "gainZero", unfollowed := true, recurses := true, apart := false }
def GainZeroSaid : Prop := gainZeroRow.holds Try.pinned (OpenSpec.ofChange gainZeroSpec)

/-- ITS FALSE NEIGHBOUR: 'it returns false'. Refute it at one input. -/
def gainZeroWrong : ChangeSpec := { name := "gainZero", fn := fun _ => fun
  | [d1, d2] => { results := [.lit (.bool false)], args := [d1, d2] }
  | _ => none }
def GainZeroWrongFalsely : Prop := gainZeroRow.holds Try.pinned (OpenSpec.ofChange gainZeroWrong)

/- THE SECOND FORM. 'bulk': how many values and letters a reading holds, each counted each time it is reached (what is shared counts as often as it is met; a slice's spare places count too). A statement '..UptoSaid' is the law's where the arguments, and the package variables that the reading takes, are together of bulk at most 1048576: NARROWER than '..Said'. Prove '..Said' where nothing that the law and all that it calls make is longer than what came in: it says more and counts as full. Else prove '..UptoSaid'. A law counts once. -/
mutual
def uptoBulk {H : Type} : DataW H → Nat
  | .lit (.string bytes) => bytes.length + 1
  | .lit _ => 1
  | .nil => 1
  | .ptr d => uptoBulk d + 1
  | .slice elems spare => uptoBulkAll elems + uptoBulkAll spare + 1
  | .agg parts => uptoBulkAll parts + 1
  | .iface _ d => uptoBulk d + 1
  | .map entries => uptoBulkEntries entries + 1
  | .held _ => 1
def uptoBulkAll {H : Type} : List (DataW H) → Nat
  | [] => 0
  | d :: r => uptoBulk d + uptoBulkAll r
def uptoBulkEntries {H : Type} : List (Lit × DataW H) → Nat
  | [] => 0
  | x :: r => uptoBulkEntry x + uptoBulkEntries r
def uptoBulkEntry {H : Type} : Lit × DataW H → Nat
  | (.string bytes, d) => bytes.length + uptoBulk d + 1
  | (_, d) => uptoBulk d + 1
 end
def uptoSmall : (H : Type) → List (DataW H) → Bool := fun _ ds => decide (uptoBulkAll ds ≤ 1048576)
def OpenSpec.upto (s : _root_.Go.ChangeSpec) : _root_.Go.OpenSpec := { _root_.Go.OpenSpec.ofChange s with cond := some uptoSmall }

/-- 'splicerlaw02.OctetReads', WHERE WHAT IT READS IS OF BULK AT MOST 1048576: true; the input reads as it did. -/
def octetReadsUptoRow : OpenClaim := { program := "ytaoodgijapiipaa", sum := "59bd64639939bbc74dc5d091728d974296694f9cb83467e992b536797abd4cba", func := "splicer/splicerlaw02.OctetReads", spec := "octetReads", inPlace := ["internal/abi.NoEscape"], apart := false, narrowed := true }
def OctetReadsUptoSaid : Prop := octetReadsUptoRow.holds Try.pinned (OpenSpec.upto octetReadsSpec)

/-- 'splicerlaw02.OctetBack', WHERE WHAT IT READS IS OF BULK AT MOST 1048576: true; the input reads as it did. -/
def octetBackUptoRow : OpenClaim := { program := "ytaoodgijapiipaa", sum := "59bd64639939bbc74dc5d091728d974296694f9cb83467e992b536797abd4cba", func := "splicer/splicerlaw02.OctetBack", spec := "octetBack", inPlace := ["internal/abi.NoEscape"], apart := false, narrowed := true }
def OctetBackUptoSaid : Prop := octetBackUptoRow.holds Try.pinned (OpenSpec.upto octetBackSpec)

/-- 'splicerlaw02.OctetWrites', WHERE WHAT IT READS IS OF BULK AT MOST 1048576: true; the input reads as it did. -/
def octetWritesUptoRow : OpenClaim := { program := "ytaoodgijapiipaa", sum := "59bd64639939bbc74dc5d091728d974296694f9cb83467e992b536797abd4cba", func := "splicer/splicerlaw02.OctetWrites", spec := "octetWrites", inPlace := ["internal/abi.NoEscape"], apart := false, narrowed := true }
def OctetWritesUptoSaid : Prop := octetWritesUptoRow.holds Try.pinned (OpenSpec.upto octetWritesSpec)

/-- 'splicerlaw02.OctetNobody', WHERE WHAT IT READS IS OF BULK AT MOST 1048576: true; the input reads as it did. -/
def octetNobodyUptoRow : OpenClaim := { program := "ytaoodgijapiipaa", sum := "59bd64639939bbc74dc5d091728d974296694f9cb83467e992b536797abd4cba", func := "splicer/splicerlaw02.OctetNobody", spec := "octetNobody", inPlace := ["internal/abi.NoEscape"], apart := false, narrowed := true }
def OctetNobodyUptoSaid : Prop := octetNobodyUptoRow.holds Try.pinned (OpenSpec.upto octetNobodySpec)

/-- 'splicerlaw25.GainFades', WHERE WHAT IT READS IS OF BULK AT MOST 1048576: true; the input reads as it did. -/
def gainFadesUptoRow : OpenClaim := { program := "ytaoodgijapiipaa", sum := "59bd64639939bbc74dc5d091728d974296694f9cb83467e992b536797abd4cba", func := "splicer/splicerlaw25.GainFades", spec := "gainFades", unfollowed := true, recurses := true, apart := false, narrowed := true }
def GainFadesUptoSaid : Prop := gainFadesUptoRow.holds Try.pinned (OpenSpec.upto gainFadesSpec)

/-- 'splicerlaw25.GainSounds', WHERE WHAT IT READS IS OF BULK AT MOST 1048576: true; the input reads as it did. -/
def gainSoundsUptoRow : OpenClaim := { program := "ytaoodgijapiipaa", sum := "59bd64639939bbc74dc5d091728d974296694f9cb83467e992b536797abd4cba", func := "splicer/splicerlaw25.GainSounds", spec := "gainSounds", unfollowed := true, recurses := true, apart := false, narrowed := true }
def GainSoundsUptoSaid : Prop := gainSoundsUptoRow.holds Try.pinned (OpenSpec.upto gainSoundsSpec)

/-- 'splicerlaw25.GainGoes', WHERE WHAT IT READS IS OF BULK AT MOST 1048576: true; the input reads as it did. -/
def gainGoesUptoRow : OpenClaim := { program := "ytaoodgijapiipaa", sum := "59bd64639939bbc74dc5d091728d974296694f9cb83467e992b536797abd4cba", func := "splicer/splicerlaw25.GainGoes", spec := "gainGoes", unfollowed := true, recurses := true, apart := false, narrowed := true }
def GainGoesUptoSaid : Prop := gainGoesUptoRow.holds Try.pinned (OpenSpec.upto gainGoesSpec)

/-- 'splicerlaw25.GainZero', WHERE WHAT IT READS IS OF BULK AT MOST 1048576: true; the input reads as it did. -/
def gainZeroUptoRow : OpenClaim := { program := "ytaoodgijapiipaa", sum := "59bd64639939bbc74dc5d091728d974296694f9cb83467e992b536797abd4cba", func := "splicer/splicerlaw25.GainZero", spec := "gainZero", unfollowed := true, recurses := true, apart := false, narrowed := true }
def GainZeroUptoSaid : Prop := gainZeroUptoRow.holds Try.pinned (OpenSpec.upto gainZeroSpec)

end Rows
end Go.Proofs.Ytaoodgijapiipaa
