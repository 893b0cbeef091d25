/-
  No cell of these rows narrows 'for every input' (looked for: loops, veiled, ifaces, maps, wideKeys, modest, calm, conditions, laid).
  DERIVED. THE GIVEN ROWS OF THIS SEAT. 12 by the template 'for every input the law returns true; each argument reads behind the call as it read before'; 0 by the template 'total and deterministic' (their statements: YtlpadkbpbmoliaaTotals.lean).
  GIVEN WITH THE SEED: the statements are not yours to turn. If you find one false, say at which input.
  Laid BY PROGRAM, IN A SANDBOX (cutbox-rows.mjs): the forced cells as the released guide's own fill.sh prints them over the translation 0f39d09f2a7ed523… (all of the seat's roots in one cut). By AI agents, Wed Nov 11 2026. No macro, syntax, notation, axiom, sorry.
-/
import Derived.Test.YtlpadkbpbmoliaaChecked
import GoSem.Claim
import GoSem.ClaimJoined
import GoSem.ClaimMapViews
import Derived.JoinedTies
import Derived.KernelRfl
namespace Go.Proofs.Ytlpadkbpbmoliaa
/- THE CELL 'sum', in the pinned program and in every row, IS THE sha256 OF THE DUMP (.gsa) THAT YtlpadkbpbmoliaaProg.lean LOADS. Nothing in Lean hashes anything: it is a label: what it is worth is what the hold of that sum in a sandbox is worth. -/
noncomputable def Try.pinned : Pinned := { name := "ytlpadkbpbmoliaa", sum := "0f39d09f2a7ed523ec78bbbabcd0651c4d001f517a4599caf8367ee88bc39b72", checked := Try.checked }
namespace Rows
def none {H : Type} : Left H := { results := [], args := [] }

/-- 'laws.FnExactRowSets': WHATEVER THE INPUT: true; the input reads as it did. -/
def fnExactRowSetsSpec : ChangeSpec := { name := "fnExactRowSets", fn := fun _ => fun
  | [d] => { results := [.lit (.bool true)], args := [d] }
  | _ => none }
def fnExactRowSetsRow : OpenClaim := { program := "ytlpadkbpbmoliaa", sum := "0f39d09f2a7ed523ec78bbbabcd0651c4d001f517a4599caf8367ee88bc39b72", func := "loop.example/g01123/laws.FnExactRowSets", spec := "fnExactRowSets", unfollowed := true, recurses := true, apart := false }
def FnExactRowSetsSaid : Prop := fnExactRowSetsRow.holds Try.pinned (OpenSpec.ofChange fnExactRowSetsSpec)

/-- ITS FALSE NEIGHBOUR: 'it returns false'. Refute it at one input. -/
def fnExactRowSetsWrong : ChangeSpec := { name := "fnExactRowSets", fn := fun _ => fun
  | [d] => { results := [.lit (.bool false)], args := [d] }
  | _ => none }
def FnExactRowSetsWrongFalsely : Prop := fnExactRowSetsRow.holds Try.pinned (OpenSpec.ofChange fnExactRowSetsWrong)

/-- 'laws.FnExactKindsOf': WHATEVER THE INPUT: true; the input reads as it did. -/
def fnExactKindsOfSpec : ChangeSpec := { name := "fnExactKindsOf", fn := fun _ => fun
  | [d] => { results := [.lit (.bool true)], args := [d] }
  | _ => none }
def fnExactKindsOfRow : OpenClaim := { program := "ytlpadkbpbmoliaa", sum := "0f39d09f2a7ed523ec78bbbabcd0651c4d001f517a4599caf8367ee88bc39b72", func := "loop.example/g01123/laws.FnExactKindsOf", spec := "fnExactKindsOf", unfollowed := true, recurses := true, apart := false }
def FnExactKindsOfSaid : Prop := fnExactKindsOfRow.holds Try.pinned (OpenSpec.ofChange fnExactKindsOfSpec)

/-- ITS FALSE NEIGHBOUR: 'it returns false'. Refute it at one input. -/
def fnExactKindsOfWrong : ChangeSpec := { name := "fnExactKindsOf", fn := fun _ => fun
  | [d] => { results := [.lit (.bool false)], args := [d] }
  | _ => none }
def FnExactKindsOfWrongFalsely : Prop := fnExactKindsOfRow.holds Try.pinned (OpenSpec.ofChange fnExactKindsOfWrong)

/-- 'laws.FnExactKindCounts': WHATEVER THE INPUT: true; the input reads as it did. -/
def fnExactKindCountsSpec : ChangeSpec := { name := "fnExactKindCounts", fn := fun _ => fun
  | [d] => { results := [.lit (.bool true)], args := [d] }
  | _ => none }
def fnExactKindCountsRow : OpenClaim := { program := "ytlpadkbpbmoliaa", sum := "0f39d09f2a7ed523ec78bbbabcd0651c4d001f517a4599caf8367ee88bc39b72", func := "loop.example/g01123/laws.FnExactKindCounts", spec := "fnExactKindCounts", unfollowed := true, recurses := true, apart := false }
def FnExactKindCountsSaid : Prop := fnExactKindCountsRow.holds Try.pinned (OpenSpec.ofChange fnExactKindCountsSpec)

/-- ITS FALSE NEIGHBOUR: 'it returns false'. Refute it at one input. -/
def fnExactKindCountsWrong : ChangeSpec := { name := "fnExactKindCounts", fn := fun _ => fun
  | [d] => { results := [.lit (.bool false)], args := [d] }
  | _ => none }
def FnExactKindCountsWrongFalsely : Prop := fnExactKindCountsRow.holds Try.pinned (OpenSpec.ofChange fnExactKindCountsWrong)

/-- 'laws.FnExactPowerOf': WHATEVER THE INPUT: true; the input reads as it did. -/
def fnExactPowerOfSpec : ChangeSpec := { name := "fnExactPowerOf", fn := fun _ => fun
  | [d1, d2] => { results := [.lit (.bool true)], args := [d1, d2] }
  | _ => none }
def fnExactPowerOfRow : OpenClaim := { program := "ytlpadkbpbmoliaa", sum := "0f39d09f2a7ed523ec78bbbabcd0651c4d001f517a4599caf8367ee88bc39b72", func := "loop.example/g01123/laws.FnExactPowerOf", spec := "fnExactPowerOf", unfollowed := true, recurses := true, apart := false }
def FnExactPowerOfSaid : Prop := fnExactPowerOfRow.holds Try.pinned (OpenSpec.ofChange fnExactPowerOfSpec)

/-- ITS FALSE NEIGHBOUR: 'it returns false'. Refute it at one input. -/
def fnExactPowerOfWrong : ChangeSpec := { name := "fnExactPowerOf", fn := fun _ => fun
  | [d1, d2] => { results := [.lit (.bool false)], args := [d1, d2] }
  | _ => none }
def FnExactPowerOfWrongFalsely : Prop := fnExactPowerOfRow.holds Try.pinned (OpenSpec.ofChange fnExactPowerOfWrong)

/-- 'laws.FnExactWeightOf': WHATEVER THE INPUT: true; the input reads as it did. -/
def fnExactWeightOfSpec : ChangeSpec := { name := "fnExactWeightOf", fn := fun _ => fun
  | [d1, d2, d3, d4] => { results := [.lit (.bool true)], args := [d1, d2, d3, d4] }
  | _ => none }
def fnExactWeightOfRow : OpenClaim := { program := "ytlpadkbpbmoliaa", sum := "0f39d09f2a7ed523ec78bbbabcd0651c4d001f517a4599caf8367ee88bc39b72", func := "loop.example/g01123/laws.FnExactWeightOf", spec := "fnExactWeightOf", unfollowed := true, recurses := true, apart := false }
def FnExactWeightOfSaid : Prop := fnExactWeightOfRow.holds Try.pinned (OpenSpec.ofChange fnExactWeightOfSpec)

/-- ITS FALSE NEIGHBOUR: 'it returns false'. Refute it at one input. -/
def fnExactWeightOfWrong : ChangeSpec := { name := "fnExactWeightOf", fn := fun _ => fun
  | [d1, d2, d3, d4] => { results := [.lit (.bool false)], args := [d1, d2, d3, d4] }
  | _ => none }
def FnExactWeightOfWrongFalsely : Prop := fnExactWeightOfRow.holds Try.pinned (OpenSpec.ofChange fnExactWeightOfWrong)

/-- 'laws.FnExactCondense': WHATEVER THE INPUT: true; the input reads as it did. -/
def fnExactCondenseSpec : ChangeSpec := { name := "fnExactCondense", fn := fun _ => fun
  | [d1, d2] => { results := [.lit (.bool true)], args := [d1, d2] }
  | _ => none }
def fnExactCondenseRow : OpenClaim := { program := "ytlpadkbpbmoliaa", sum := "0f39d09f2a7ed523ec78bbbabcd0651c4d001f517a4599caf8367ee88bc39b72", func := "loop.example/g01123/laws.FnExactCondense", spec := "fnExactCondense", unfollowed := true, recurses := true, apart := false }
def FnExactCondenseSaid : Prop := fnExactCondenseRow.holds Try.pinned (OpenSpec.ofChange fnExactCondenseSpec)

/-- ITS FALSE NEIGHBOUR: 'it returns false'. Refute it at one input. -/
def fnExactCondenseWrong : ChangeSpec := { name := "fnExactCondense", fn := fun _ => fun
  | [d1, d2] => { results := [.lit (.bool false)], args := [d1, d2] }
  | _ => none }
def FnExactCondenseWrongFalsely : Prop := fnExactCondenseRow.holds Try.pinned (OpenSpec.ofChange fnExactCondenseWrong)

/-- 'laws.FnExactSetWeight': WHATEVER THE INPUT: true; the input reads as it did. -/
def fnExactSetWeightSpec : ChangeSpec := { name := "fnExactSetWeight", fn := fun _ => fun
  | [d1, d2, d3] => { results := [.lit (.bool true)], args := [d1, d2, d3] }
  | _ => none }
def fnExactSetWeightRow : OpenClaim := { program := "ytlpadkbpbmoliaa", sum := "0f39d09f2a7ed523ec78bbbabcd0651c4d001f517a4599caf8367ee88bc39b72", func := "loop.example/g01123/laws.FnExactSetWeight", spec := "fnExactSetWeight", unfollowed := true, recurses := true, apart := false }
def FnExactSetWeightSaid : Prop := fnExactSetWeightRow.holds Try.pinned (OpenSpec.ofChange fnExactSetWeightSpec)

/-- ITS FALSE NEIGHBOUR: 'it returns false'. Refute it at one input. -/
def fnExactSetWeightWrong : ChangeSpec := { name := "fnExactSetWeight", fn := fun _ => fun
  | [d1, d2, d3] => { results := [.lit (.bool false)], args := [d1, d2, d3] }
  | _ => none }
def FnExactSetWeightWrongFalsely : Prop := fnExactSetWeightRow.holds Try.pinned (OpenSpec.ofChange fnExactSetWeightWrong)

/-- 'laws.FnExactCondenseSteps': WHATEVER THE INPUT: true; the input reads as it did. -/
def fnExactCondenseStepsSpec : ChangeSpec := { name := "fnExactCondenseSteps", fn := fun _ => fun
  | [d1, d2] => { results := [.lit (.bool true)], args := [d1, d2] }
  | _ => none }
def fnExactCondenseStepsRow : OpenClaim := { program := "ytlpadkbpbmoliaa", sum := "0f39d09f2a7ed523ec78bbbabcd0651c4d001f517a4599caf8367ee88bc39b72", func := "loop.example/g01123/laws.FnExactCondenseSteps", spec := "fnExactCondenseSteps", unfollowed := true, recurses := true, apart := false }
def FnExactCondenseStepsSaid : Prop := fnExactCondenseStepsRow.holds Try.pinned (OpenSpec.ofChange fnExactCondenseStepsSpec)

/-- ITS FALSE NEIGHBOUR: 'it returns false'. Refute it at one input. -/
def fnExactCondenseStepsWrong : ChangeSpec := { name := "fnExactCondenseSteps", fn := fun _ => fun
  | [d1, d2] => { results := [.lit (.bool false)], args := [d1, d2] }
  | _ => none }
def FnExactCondenseStepsWrongFalsely : Prop := fnExactCondenseStepsRow.holds Try.pinned (OpenSpec.ofChange fnExactCondenseStepsWrong)

/-- 'laws.FnExactFromKinds': WHATEVER THE INPUT: true; the input reads as it did. -/
def fnExactFromKindsSpec : ChangeSpec := { name := "fnExactFromKinds", fn := fun _ => fun
  | [d] => { results := [.lit (.bool true)], args := [d] }
  | _ => none }
def fnExactFromKindsRow : OpenClaim := { program := "ytlpadkbpbmoliaa", sum := "0f39d09f2a7ed523ec78bbbabcd0651c4d001f517a4599caf8367ee88bc39b72", func := "loop.example/g01123/laws.FnExactFromKinds", spec := "fnExactFromKinds", unfollowed := true, recurses := true, apart := false }
def FnExactFromKindsSaid : Prop := fnExactFromKindsRow.holds Try.pinned (OpenSpec.ofChange fnExactFromKindsSpec)

/-- ITS FALSE NEIGHBOUR: 'it returns false'. Refute it at one input. -/
def fnExactFromKindsWrong : ChangeSpec := { name := "fnExactFromKinds", fn := fun _ => fun
  | [d] => { results := [.lit (.bool false)], args := [d] }
  | _ => none }
def FnExactFromKindsWrongFalsely : Prop := fnExactFromKindsRow.holds Try.pinned (OpenSpec.ofChange fnExactFromKindsWrong)

/-- 'laws.FnExactLoopsOf': WHATEVER THE INPUT: true; the input reads as it did. -/
def fnExactLoopsOfSpec : ChangeSpec := { name := "fnExactLoopsOf", fn := fun _ => fun
  | [d] => { results := [.lit (.bool true)], args := [d] }
  | _ => none }
def fnExactLoopsOfRow : OpenClaim := { program := "ytlpadkbpbmoliaa", sum := "0f39d09f2a7ed523ec78bbbabcd0651c4d001f517a4599caf8367ee88bc39b72", func := "loop.example/g01123/laws.FnExactLoopsOf", spec := "fnExactLoopsOf", unfollowed := true, recurses := true, apart := false }
def FnExactLoopsOfSaid : Prop := fnExactLoopsOfRow.holds Try.pinned (OpenSpec.ofChange fnExactLoopsOfSpec)

/-- ITS FALSE NEIGHBOUR: 'it returns false'. Refute it at one input. -/
def fnExactLoopsOfWrong : ChangeSpec := { name := "fnExactLoopsOf", fn := fun _ => fun
  | [d] => { results := [.lit (.bool false)], args := [d] }
  | _ => none }
def FnExactLoopsOfWrongFalsely : Prop := fnExactLoopsOfRow.holds Try.pinned (OpenSpec.ofChange fnExactLoopsOfWrong)

/-- 'laws.FnExactAreLoops': WHATEVER THE INPUT: true; the input reads as it did. -/
def fnExactAreLoopsSpec : ChangeSpec := { name := "fnExactAreLoops", fn := fun _ => fun
  | [d] => { results := [.lit (.bool true)], args := [d] }
  | _ => none }
def fnExactAreLoopsRow : OpenClaim := { program := "ytlpadkbpbmoliaa", sum := "0f39d09f2a7ed523ec78bbbabcd0651c4d001f517a4599caf8367ee88bc39b72", func := "loop.example/g01123/laws.FnExactAreLoops", spec := "fnExactAreLoops", unfollowed := true, recurses := true, apart := false }
def FnExactAreLoopsSaid : Prop := fnExactAreLoopsRow.holds Try.pinned (OpenSpec.ofChange fnExactAreLoopsSpec)

/-- ITS FALSE NEIGHBOUR: 'it returns false'. Refute it at one input. -/
def fnExactAreLoopsWrong : ChangeSpec := { name := "fnExactAreLoops", fn := fun _ => fun
  | [d] => { results := [.lit (.bool false)], args := [d] }
  | _ => none }
def FnExactAreLoopsWrongFalsely : Prop := fnExactAreLoopsRow.holds Try.pinned (OpenSpec.ofChange fnExactAreLoopsWrong)

/-- 'laws.FnExactFromLoops': WHATEVER THE INPUT: true; the input reads as it did. -/
def fnExactFromLoopsSpec : ChangeSpec := { name := "fnExactFromLoops", fn := fun _ => fun
  | [d] => { results := [.lit (.bool true)], args := [d] }
  | _ => none }
def fnExactFromLoopsRow : OpenClaim := { program := "ytlpadkbpbmoliaa", sum := "0f39d09f2a7ed523ec78bbbabcd0651c4d001f517a4599caf8367ee88bc39b72", func := "loop.example/g01123/laws.FnExactFromLoops", spec := "fnExactFromLoops", unfollowed := true, recurses := true, apart := false }
def FnExactFromLoopsSaid : Prop := fnExactFromLoopsRow.holds Try.pinned (OpenSpec.ofChange fnExactFromLoopsSpec)

/-- ITS FALSE NEIGHBOUR: 'it returns false'. Refute it at one input. -/
def fnExactFromLoopsWrong : ChangeSpec := { name := "fnExactFromLoops", fn := fun _ => fun
  | [d] => { results := [.lit (.bool false)], args := [d] }
  | _ => none }
def FnExactFromLoopsWrongFalsely : Prop := fnExactFromLoopsRow.holds Try.pinned (OpenSpec.ofChange fnExactFromLoopsWrong)

/- THE SECOND FORM. 'bulk': how many values and letters a reading holds, each counted each time it is reached (what is shared counts as often as it is met; a slice's spare places count too). A statement '..UptoSaid' is the law's where the arguments, and the package variables that the reading takes, are together of bulk at most 1048576: NARROWER than '..Said'. Prove '..Said' where nothing that the law and all that it calls make is longer than what came in: it says more and counts as full. Else prove '..UptoSaid'. A law counts once. -/
mutual
def uptoBulk {H : Type} : DataW H → Nat
  | .lit (.string bytes) => bytes.length + 1
  | .lit _ => 1
  | .nil => 1
  | .ptr d => uptoBulk d + 1
  | .slice elems spare => uptoBulkAll elems + uptoBulkAll spare + 1
  | .agg parts => uptoBulkAll parts + 1
  | .iface _ d => uptoBulk d + 1
  | .map entries => uptoBulkEntries entries + 1
  | .held _ => 1
def uptoBulkAll {H : Type} : List (DataW H) → Nat
  | [] => 0
  | d :: r => uptoBulk d + uptoBulkAll r
def uptoBulkEntries {H : Type} : List (Lit × DataW H) → Nat
  | [] => 0
  | x :: r => uptoBulkEntry x + uptoBulkEntries r
def uptoBulkEntry {H : Type} : Lit × DataW H → Nat
  | (.string bytes, d) => bytes.length + uptoBulk d + 1
  | (_, d) => uptoBulk d + 1
 end
def uptoSmall : (H : Type) → List (DataW H) → Bool := fun _ ds => decide (uptoBulkAll ds ≤ 1048576)
def OpenSpec.upto (s : _root_.Go.ChangeSpec) : _root_.Go.OpenSpec := { _root_.Go.OpenSpec.ofChange s with cond := some uptoSmall }

/-- 'laws.FnExactRowSets', WHERE WHAT IT READS IS OF BULK AT MOST 1048576: true; the input reads as it did. -/
def fnExactRowSetsUptoRow : OpenClaim := { program := "ytlpadkbpbmoliaa", sum := "0f39d09f2a7ed523ec78bbbabcd0651c4d001f517a4599caf8367ee88bc39b72", func := "loop.example/g01123/laws.FnExactRowSets", spec := "fnExactRowSets", unfollowed := true, recurses := true, apart := false, narrowed := true }
def FnExactRowSetsUptoSaid : Prop := fnExactRowSetsUptoRow.holds Try.pinned (OpenSpec.upto fnExactRowSetsSpec)

/-- 'laws.FnExactKindsOf', WHERE WHAT IT READS IS OF BULK AT MOST 1048576: true; the input reads as it did. -/
def fnExactKindsOfUptoRow : OpenClaim := { program := "ytlpadkbpbmoliaa", sum := "0f39d09f2a7ed523ec78bbbabcd0651c4d001f517a4599caf8367ee88bc39b72", func := "loop.example/g01123/laws.FnExactKindsOf", spec := "fnExactKindsOf", unfollowed := true, recurses := true, apart := false, narrowed := true }
def FnExactKindsOfUptoSaid : Prop := fnExactKindsOfUptoRow.holds Try.pinned (OpenSpec.upto fnExactKindsOfSpec)

/-- 'laws.FnExactKindCounts', WHERE WHAT IT READS IS OF BULK AT MOST 1048576: true; the input reads as it did. -/
def fnExactKindCountsUptoRow : OpenClaim := { program := "ytlpadkbpbmoliaa", sum := "0f39d09f2a7ed523ec78bbbabcd0651c4d001f517a4599caf8367ee88bc39b72", func := "loop.example/g01123/laws.FnExactKindCounts", spec := "fnExactKindCounts", unfollowed := true, recurses := true, apart := false, narrowed := true }
def FnExactKindCountsUptoSaid : Prop := fnExactKindCountsUptoRow.holds Try.pinned (OpenSpec.upto fnExactKindCountsSpec)

/-- 'laws.FnExactPowerOf', WHERE WHAT IT READS IS OF BULK AT MOST 1048576: true; the input reads as it did. -/
def fnExactPowerOfUptoRow : OpenClaim := { program := "ytlpadkbpbmoliaa", sum := "0f39d09f2a7ed523ec78bbbabcd0651c4d001f517a4599caf8367ee88bc39b72", func := "loop.example/g01123/laws.FnExactPowerOf", spec := "fnExactPowerOf", unfollowed := true, recurses := true, apart := false, narrowed := true }
def FnExactPowerOfUptoSaid : Prop := fnExactPowerOfUptoRow.holds Try.pinned (OpenSpec.upto fnExactPowerOfSpec)

/-- 'laws.FnExactWeightOf', WHERE WHAT IT READS IS OF BULK AT MOST 1048576: true; the input reads as it did. -/
def fnExactWeightOfUptoRow : OpenClaim := { program := "ytlpadkbpbmoliaa", sum := "0f39d09f2a7ed523ec78bbbabcd0651c4d001f517a4599caf8367ee88bc39b72", func := "loop.example/g01123/laws.FnExactWeightOf", spec := "fnExactWeightOf", unfollowed := true, recurses := true, apart := false, narrowed := true }
def FnExactWeightOfUptoSaid : Prop := fnExactWeightOfUptoRow.holds Try.pinned (OpenSpec.upto fnExactWeightOfSpec)

/-- 'laws.FnExactCondense', WHERE WHAT IT READS IS OF BULK AT MOST 1048576: true; the input reads as it did. -/
def fnExactCondenseUptoRow : OpenClaim := { program := "ytlpadkbpbmoliaa", sum := "0f39d09f2a7ed523ec78bbbabcd0651c4d001f517a4599caf8367ee88bc39b72", func := "loop.example/g01123/laws.FnExactCondense", spec := "fnExactCondense", unfollowed := true, recurses := true, apart := false, narrowed := true }
def FnExactCondenseUptoSaid : Prop := fnExactCondenseUptoRow.holds Try.pinned (OpenSpec.upto fnExactCondenseSpec)

/-- 'laws.FnExactSetWeight', WHERE WHAT IT READS IS OF BULK AT MOST 1048576: true; the input reads as it did. -/
def fnExactSetWeightUptoRow : OpenClaim := { program := "ytlpadkbpbmoliaa", sum := "0f39d09f2a7ed523ec78bbbabcd0651c4d001f517a4599caf8367ee88bc39b72", func := "loop.example/g01123/laws.FnExactSetWeight", spec := "fnExactSetWeight", unfollowed := true, recurses := true, apart := false, narrowed := true }
def FnExactSetWeightUptoSaid : Prop := fnExactSetWeightUptoRow.holds Try.pinned (OpenSpec.upto fnExactSetWeightSpec)

/-- 'laws.FnExactCondenseSteps', WHERE WHAT IT READS IS OF BULK AT MOST 1048576: true; the input reads as it did. -/
def fnExactCondenseStepsUptoRow : OpenClaim := { program := "ytlpadkbpbmoliaa", sum := "0f39d09f2a7ed523ec78bbbabcd0651c4d001f517a4599caf8367ee88bc39b72", func := "loop.example/g01123/laws.FnExactCondenseSteps", spec := "fnExactCondenseSteps", unfollowed := true, recurses := true, apart := false, narrowed := true }
def FnExactCondenseStepsUptoSaid : Prop := fnExactCondenseStepsUptoRow.holds Try.pinned (OpenSpec.upto fnExactCondenseStepsSpec)

/-- 'laws.FnExactFromKinds', WHERE WHAT IT READS IS OF BULK AT MOST 1048576: true; the input reads as it did. -/
def fnExactFromKindsUptoRow : OpenClaim := { program := "ytlpadkbpbmoliaa", sum := "0f39d09f2a7ed523ec78bbbabcd0651c4d001f517a4599caf8367ee88bc39b72", func := "loop.example/g01123/laws.FnExactFromKinds", spec := "fnExactFromKinds", unfollowed := true, recurses := true, apart := false, narrowed := true }
def FnExactFromKindsUptoSaid : Prop := fnExactFromKindsUptoRow.holds Try.pinned (OpenSpec.upto fnExactFromKindsSpec)

/-- 'laws.FnExactLoopsOf', WHERE WHAT IT READS IS OF BULK AT MOST 1048576: true; the input reads as it did. -/
def fnExactLoopsOfUptoRow : OpenClaim := { program := "ytlpadkbpbmoliaa", sum := "0f39d09f2a7ed523ec78bbbabcd0651c4d001f517a4599caf8367ee88bc39b72", func := "loop.example/g01123/laws.FnExactLoopsOf", spec := "fnExactLoopsOf", unfollowed := true, recurses := true, apart := false, narrowed := true }
def FnExactLoopsOfUptoSaid : Prop := fnExactLoopsOfUptoRow.holds Try.pinned (OpenSpec.upto fnExactLoopsOfSpec)

/-- 'laws.FnExactAreLoops', WHERE WHAT IT READS IS OF BULK AT MOST 1048576: true; the input reads as it did. -/
def fnExactAreLoopsUptoRow : OpenClaim := { program := "ytlpadkbpbmoliaa", sum := "0f39d09f2a7ed523ec78bbbabcd0651c4d001f517a4599caf8367ee88bc39b72", func := "loop.example/g01123/laws.FnExactAreLoops", spec := "fnExactAreLoops", unfollowed := true, recurses := true, apart := false, narrowed := true }
def FnExactAreLoopsUptoSaid : Prop := fnExactAreLoopsUptoRow.holds Try.pinned (OpenSpec.upto fnExactAreLoopsSpec)

/-- 'laws.FnExactFromLoops', WHERE WHAT IT READS IS OF BULK AT MOST 1048576: true; the input reads as it did. -/
def fnExactFromLoopsUptoRow : OpenClaim := { program := "ytlpadkbpbmoliaa", sum := "0f39d09f2a7ed523ec78bbbabcd0651c4d001f517a4599caf8367ee88bc39b72", func := "loop.example/g01123/laws.FnExactFromLoops", spec := "fnExactFromLoops", unfollowed := true, recurses := true, apart := false, narrowed := true }
def FnExactFromLoopsUptoSaid : Prop := fnExactFromLoopsUptoRow.holds Try.pinned (OpenSpec.upto fnExactFromLoopsSpec)

end Rows
end Go.Proofs.Ytlpadkbpbmoliaa
