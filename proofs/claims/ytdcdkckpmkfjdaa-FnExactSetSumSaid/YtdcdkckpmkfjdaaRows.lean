/-
  No cell of these rows narrows 'for every input' (looked for: loops, veiled, ifaces, maps, wideKeys, modest, calm, conditions, laid).
  DERIVED. THE GIVEN ROWS OF THIS SEAT. 14 by the template 'for every input the law returns true; each argument reads behind the call as it read before'; 0 by the template 'total and deterministic' (their statements: YtdcdkckpmkfjdaaTotals.lean).
  GIVEN WITH THE SEED: the statements are not yours to turn. If you find one false, say at which input.
  Laid BY PROGRAM, IN A SANDBOX (cutbox-rows.mjs): the forced cells as the released guide's own fill.sh prints them over the translation 9c170bc7cc6e6816… (all of the seat's roots in one cut). By AI agents, Wed Nov 11 2026. No macro, syntax, notation, axiom, sorry.
-/
import Derived.Test.YtdcdkckpmkfjdaaChecked
import GoSem.Claim
import GoSem.ClaimJoined
import GoSem.ClaimMapViews
import Derived.JoinedTies
import Derived.KernelRfl
namespace Go.Proofs.Ytdcdkckpmkfjdaa
/- THE CELL 'sum', in the pinned program and in every row, IS THE sha256 OF THE DUMP (.gsa) THAT YtdcdkckpmkfjdaaProg.lean LOADS. Nothing in Lean hashes anything: it is a label: what it is worth is what the hold of that sum in a sandbox is worth. -/
noncomputable def Try.pinned : Pinned := { name := "ytdcdkckpmkfjdaa", sum := "9c170bc7cc6e68163f7b2269b64c8e94e819cdeda36b537debfcbe0f719307fd", checked := Try.checked }
namespace Rows
def none {H : Type} : Left H := { results := [], args := [] }

/-- 'laws.FnExactMinusTable': WHATEVER THE INPUT: true; the input reads as it did. -/
def fnExactMinusTableSpec : ChangeSpec := { name := "fnExactMinusTable", fn := fun _ => fun
  | [d] => { results := [.lit (.bool true)], args := [d] }
  | _ => none }
def fnExactMinusTableRow : OpenClaim := { program := "ytdcdkckpmkfjdaa", sum := "9c170bc7cc6e68163f7b2269b64c8e94e819cdeda36b537debfcbe0f719307fd", func := "loop.example/g01123/laws.FnExactMinusTable", spec := "fnExactMinusTable", unfollowed := true, recurses := true, apart := false }
def FnExactMinusTableSaid : Prop := fnExactMinusTableRow.holds Try.pinned (OpenSpec.ofChange fnExactMinusTableSpec)

/-- ITS FALSE NEIGHBOUR: 'it returns false'. Refute it at one input. -/
def fnExactMinusTableWrong : ChangeSpec := { name := "fnExactMinusTable", fn := fun _ => fun
  | [d] => { results := [.lit (.bool false)], args := [d] }
  | _ => none }
def FnExactMinusTableWrongFalsely : Prop := fnExactMinusTableRow.holds Try.pinned (OpenSpec.ofChange fnExactMinusTableWrong)

/-- 'laws.FnExactInversionTable': WHATEVER THE INPUT: true; the input reads as it did. -/
def fnExactInversionTableSpec : ChangeSpec := { name := "fnExactInversionTable", fn := fun _ => fun
  | [d] => { results := [.lit (.bool true)], args := [d] }
  | _ => none }
def fnExactInversionTableRow : OpenClaim := { program := "ytdcdkckpmkfjdaa", sum := "9c170bc7cc6e68163f7b2269b64c8e94e819cdeda36b537debfcbe0f719307fd", func := "loop.example/g01123/laws.FnExactInversionTable", spec := "fnExactInversionTable", unfollowed := true, recurses := true, apart := false }
def FnExactInversionTableSaid : Prop := fnExactInversionTableRow.holds Try.pinned (OpenSpec.ofChange fnExactInversionTableSpec)

/-- ITS FALSE NEIGHBOUR: 'it returns false'. Refute it at one input. -/
def fnExactInversionTableWrong : ChangeSpec := { name := "fnExactInversionTable", fn := fun _ => fun
  | [d] => { results := [.lit (.bool false)], args := [d] }
  | _ => none }
def FnExactInversionTableWrongFalsely : Prop := fnExactInversionTableRow.holds Try.pinned (OpenSpec.ofChange fnExactInversionTableWrong)

/-- 'laws.FnExactWeightSum': WHATEVER THE INPUT: true; the input reads as it did. -/
def fnExactWeightSumSpec : ChangeSpec := { name := "fnExactWeightSum", fn := fun _ => fun
  | [d1, d2, d3, d4] => { results := [.lit (.bool true)], args := [d1, d2, d3, d4] }
  | _ => none }
def fnExactWeightSumRow : OpenClaim := { program := "ytdcdkckpmkfjdaa", sum := "9c170bc7cc6e68163f7b2269b64c8e94e819cdeda36b537debfcbe0f719307fd", func := "loop.example/g01123/laws.FnExactWeightSum", spec := "fnExactWeightSum", unfollowed := true, recurses := true, apart := false }
def FnExactWeightSumSaid : Prop := fnExactWeightSumRow.holds Try.pinned (OpenSpec.ofChange fnExactWeightSumSpec)

/-- ITS FALSE NEIGHBOUR: 'it returns false'. Refute it at one input. -/
def fnExactWeightSumWrong : ChangeSpec := { name := "fnExactWeightSum", fn := fun _ => fun
  | [d1, d2, d3, d4] => { results := [.lit (.bool false)], args := [d1, d2, d3, d4] }
  | _ => none }
def FnExactWeightSumWrongFalsely : Prop := fnExactWeightSumRow.holds Try.pinned (OpenSpec.ofChange fnExactWeightSumWrong)

/-- 'laws.FnExactSetSum': WHATEVER THE INPUT: true; the input reads as it did. -/
def fnExactSetSumSpec : ChangeSpec := { name := "fnExactSetSum", fn := fun _ => fun
  | [d1, d2] => { results := [.lit (.bool true)], args := [d1, d2] }
  | _ => none }
def fnExactSetSumRow : OpenClaim := { program := "ytdcdkckpmkfjdaa", sum := "9c170bc7cc6e68163f7b2269b64c8e94e819cdeda36b537debfcbe0f719307fd", func := "loop.example/g01123/laws.FnExactSetSum", spec := "fnExactSetSum", unfollowed := true, recurses := true, apart := false }
def FnExactSetSumSaid : Prop := fnExactSetSumRow.holds Try.pinned (OpenSpec.ofChange fnExactSetSumSpec)

/-- ITS FALSE NEIGHBOUR: 'it returns false'. Refute it at one input. -/
def fnExactSetSumWrong : ChangeSpec := { name := "fnExactSetSum", fn := fun _ => fun
  | [d1, d2] => { results := [.lit (.bool false)], args := [d1, d2] }
  | _ => none }
def FnExactSetSumWrongFalsely : Prop := fnExactSetSumRow.holds Try.pinned (OpenSpec.ofChange fnExactSetSumWrong)

/-- 'laws.FnExactFreeSum': WHATEVER THE INPUT: true; the input reads as it did. -/
def fnExactFreeSumSpec : ChangeSpec := { name := "fnExactFreeSum", fn := fun _ => fun
  | [d1, d2, d3] => { results := [.lit (.bool true)], args := [d1, d2, d3] }
  | _ => none }
def fnExactFreeSumRow : OpenClaim := { program := "ytdcdkckpmkfjdaa", sum := "9c170bc7cc6e68163f7b2269b64c8e94e819cdeda36b537debfcbe0f719307fd", func := "loop.example/g01123/laws.FnExactFreeSum", spec := "fnExactFreeSum", unfollowed := true, recurses := true, apart := false }
def FnExactFreeSumSaid : Prop := fnExactFreeSumRow.holds Try.pinned (OpenSpec.ofChange fnExactFreeSumSpec)

/-- ITS FALSE NEIGHBOUR: 'it returns false'. Refute it at one input. -/
def fnExactFreeSumWrong : ChangeSpec := { name := "fnExactFreeSum", fn := fun _ => fun
  | [d1, d2, d3] => { results := [.lit (.bool false)], args := [d1, d2, d3] }
  | _ => none }
def FnExactFreeSumWrongFalsely : Prop := fnExactFreeSumRow.holds Try.pinned (OpenSpec.ofChange fnExactFreeSumWrong)

/-- 'laws.FnExactJointTable': WHATEVER THE INPUT: true; the input reads as it did. -/
def fnExactJointTableSpec : ChangeSpec := { name := "fnExactJointTable", fn := fun _ => fun
  | [d] => { results := [.lit (.bool true)], args := [d] }
  | _ => none }
def fnExactJointTableRow : OpenClaim := { program := "ytdcdkckpmkfjdaa", sum := "9c170bc7cc6e68163f7b2269b64c8e94e819cdeda36b537debfcbe0f719307fd", func := "loop.example/g01123/laws.FnExactJointTable", spec := "fnExactJointTable", unfollowed := true, recurses := true, apart := false }
def FnExactJointTableSaid : Prop := fnExactJointTableRow.holds Try.pinned (OpenSpec.ofChange fnExactJointTableSpec)

/-- ITS FALSE NEIGHBOUR: 'it returns false'. Refute it at one input. -/
def fnExactJointTableWrong : ChangeSpec := { name := "fnExactJointTable", fn := fun _ => fun
  | [d] => { results := [.lit (.bool false)], args := [d] }
  | _ => none }
def FnExactJointTableWrongFalsely : Prop := fnExactJointTableRow.holds Try.pinned (OpenSpec.ofChange fnExactJointTableWrong)

/-- 'laws.FnExactSpreadOfParts': WHATEVER THE INPUT: true; the input reads as it did. -/
def fnExactSpreadOfPartsSpec : ChangeSpec := { name := "fnExactSpreadOfParts", fn := fun _ => fun
  | [d] => { results := [.lit (.bool true)], args := [d] }
  | _ => none }
def fnExactSpreadOfPartsRow : OpenClaim := { program := "ytdcdkckpmkfjdaa", sum := "9c170bc7cc6e68163f7b2269b64c8e94e819cdeda36b537debfcbe0f719307fd", func := "loop.example/g01123/laws.FnExactSpreadOfParts", spec := "fnExactSpreadOfParts", unfollowed := true, recurses := true, apart := false }
def FnExactSpreadOfPartsSaid : Prop := fnExactSpreadOfPartsRow.holds Try.pinned (OpenSpec.ofChange fnExactSpreadOfPartsSpec)

/-- ITS FALSE NEIGHBOUR: 'it returns false'. Refute it at one input. -/
def fnExactSpreadOfPartsWrong : ChangeSpec := { name := "fnExactSpreadOfParts", fn := fun _ => fun
  | [d] => { results := [.lit (.bool false)], args := [d] }
  | _ => none }
def FnExactSpreadOfPartsWrongFalsely : Prop := fnExactSpreadOfPartsRow.holds Try.pinned (OpenSpec.ofChange fnExactSpreadOfPartsWrong)

/-- 'laws.FnExactFirstRows': WHATEVER THE INPUT: true; the input reads as it did. -/
def fnExactFirstRowsSpec : ChangeSpec := { name := "fnExactFirstRows", fn := fun _ => fun
  | [d] => { results := [.lit (.bool true)], args := [d] }
  | _ => none }
def fnExactFirstRowsRow : OpenClaim := { program := "ytdcdkckpmkfjdaa", sum := "9c170bc7cc6e68163f7b2269b64c8e94e819cdeda36b537debfcbe0f719307fd", func := "loop.example/g01123/laws.FnExactFirstRows", spec := "fnExactFirstRows", unfollowed := true, recurses := true, apart := false }
def FnExactFirstRowsSaid : Prop := fnExactFirstRowsRow.holds Try.pinned (OpenSpec.ofChange fnExactFirstRowsSpec)

/-- ITS FALSE NEIGHBOUR: 'it returns false'. Refute it at one input. -/
def fnExactFirstRowsWrong : ChangeSpec := { name := "fnExactFirstRows", fn := fun _ => fun
  | [d] => { results := [.lit (.bool false)], args := [d] }
  | _ => none }
def FnExactFirstRowsWrongFalsely : Prop := fnExactFirstRowsRow.holds Try.pinned (OpenSpec.ofChange fnExactFirstRowsWrong)

/-- 'laws.FnExactRowsBelow': WHATEVER THE INPUT: true; the input reads as it did. -/
def fnExactRowsBelowSpec : ChangeSpec := { name := "fnExactRowsBelow", fn := fun _ => fun
  | [d] => { results := [.lit (.bool true)], args := [d] }
  | _ => none }
def fnExactRowsBelowRow : OpenClaim := { program := "ytdcdkckpmkfjdaa", sum := "9c170bc7cc6e68163f7b2269b64c8e94e819cdeda36b537debfcbe0f719307fd", func := "loop.example/g01123/laws.FnExactRowsBelow", spec := "fnExactRowsBelow", unfollowed := true, recurses := true, apart := false }
def FnExactRowsBelowSaid : Prop := fnExactRowsBelowRow.holds Try.pinned (OpenSpec.ofChange fnExactRowsBelowSpec)

/-- ITS FALSE NEIGHBOUR: 'it returns false'. Refute it at one input. -/
def fnExactRowsBelowWrong : ChangeSpec := { name := "fnExactRowsBelow", fn := fun _ => fun
  | [d] => { results := [.lit (.bool false)], args := [d] }
  | _ => none }
def FnExactRowsBelowWrongFalsely : Prop := fnExactRowsBelowRow.holds Try.pinned (OpenSpec.ofChange fnExactRowsBelowWrong)

/-- 'laws.FnExactAllDescending': WHATEVER THE INPUT: true; the input reads as it did. -/
def fnExactAllDescendingSpec : ChangeSpec := { name := "fnExactAllDescending", fn := fun _ => fun
  | [d] => { results := [.lit (.bool true)], args := [d] }
  | _ => none }
def fnExactAllDescendingRow : OpenClaim := { program := "ytdcdkckpmkfjdaa", sum := "9c170bc7cc6e68163f7b2269b64c8e94e819cdeda36b537debfcbe0f719307fd", func := "loop.example/g01123/laws.FnExactAllDescending", spec := "fnExactAllDescending", unfollowed := true, recurses := true, apart := false }
def FnExactAllDescendingSaid : Prop := fnExactAllDescendingRow.holds Try.pinned (OpenSpec.ofChange fnExactAllDescendingSpec)

/-- ITS FALSE NEIGHBOUR: 'it returns false'. Refute it at one input. -/
def fnExactAllDescendingWrong : ChangeSpec := { name := "fnExactAllDescending", fn := fun _ => fun
  | [d] => { results := [.lit (.bool false)], args := [d] }
  | _ => none }
def FnExactAllDescendingWrongFalsely : Prop := fnExactAllDescendingRow.holds Try.pinned (OpenSpec.ofChange fnExactAllDescendingWrong)

/-- 'laws.FnExactCountDescending': WHATEVER THE INPUT: true; the input reads as it did. -/
def fnExactCountDescendingSpec : ChangeSpec := { name := "fnExactCountDescending", fn := fun _ => fun
  | [d] => { results := [.lit (.bool true)], args := [d] }
  | _ => none }
def fnExactCountDescendingRow : OpenClaim := { program := "ytdcdkckpmkfjdaa", sum := "9c170bc7cc6e68163f7b2269b64c8e94e819cdeda36b537debfcbe0f719307fd", func := "loop.example/g01123/laws.FnExactCountDescending", spec := "fnExactCountDescending", unfollowed := true, recurses := true, apart := false }
def FnExactCountDescendingSaid : Prop := fnExactCountDescendingRow.holds Try.pinned (OpenSpec.ofChange fnExactCountDescendingSpec)

/-- ITS FALSE NEIGHBOUR: 'it returns false'. Refute it at one input. -/
def fnExactCountDescendingWrong : ChangeSpec := { name := "fnExactCountDescending", fn := fun _ => fun
  | [d] => { results := [.lit (.bool false)], args := [d] }
  | _ => none }
def FnExactCountDescendingWrongFalsely : Prop := fnExactCountDescendingRow.holds Try.pinned (OpenSpec.ofChange fnExactCountDescendingWrong)

/-- 'laws.FnExactDescendingWith': WHATEVER THE INPUT: true; the input reads as it did. -/
def fnExactDescendingWithSpec : ChangeSpec := { name := "fnExactDescendingWith", fn := fun _ => fun
  | [d1, d2] => { results := [.lit (.bool true)], args := [d1, d2] }
  | _ => none }
def fnExactDescendingWithRow : OpenClaim := { program := "ytdcdkckpmkfjdaa", sum := "9c170bc7cc6e68163f7b2269b64c8e94e819cdeda36b537debfcbe0f719307fd", func := "loop.example/g01123/laws.FnExactDescendingWith", spec := "fnExactDescendingWith", unfollowed := true, recurses := true, apart := false }
def FnExactDescendingWithSaid : Prop := fnExactDescendingWithRow.holds Try.pinned (OpenSpec.ofChange fnExactDescendingWithSpec)

/-- ITS FALSE NEIGHBOUR: 'it returns false'. Refute it at one input. -/
def fnExactDescendingWithWrong : ChangeSpec := { name := "fnExactDescendingWith", fn := fun _ => fun
  | [d1, d2] => { results := [.lit (.bool false)], args := [d1, d2] }
  | _ => none }
def FnExactDescendingWithWrongFalsely : Prop := fnExactDescendingWithRow.holds Try.pinned (OpenSpec.ofChange fnExactDescendingWithWrong)

/-- 'laws.FnExactGreatestTable': WHATEVER THE INPUT: true; the input reads as it did. -/
def fnExactGreatestTableSpec : ChangeSpec := { name := "fnExactGreatestTable", fn := fun _ => fun
  | [d] => { results := [.lit (.bool true)], args := [d] }
  | _ => none }
def fnExactGreatestTableRow : OpenClaim := { program := "ytdcdkckpmkfjdaa", sum := "9c170bc7cc6e68163f7b2269b64c8e94e819cdeda36b537debfcbe0f719307fd", func := "loop.example/g01123/laws.FnExactGreatestTable", spec := "fnExactGreatestTable", unfollowed := true, recurses := true, apart := false }
def FnExactGreatestTableSaid : Prop := fnExactGreatestTableRow.holds Try.pinned (OpenSpec.ofChange fnExactGreatestTableSpec)

/-- ITS FALSE NEIGHBOUR: 'it returns false'. Refute it at one input. -/
def fnExactGreatestTableWrong : ChangeSpec := { name := "fnExactGreatestTable", fn := fun _ => fun
  | [d] => { results := [.lit (.bool false)], args := [d] }
  | _ => none }
def FnExactGreatestTableWrongFalsely : Prop := fnExactGreatestTableRow.holds Try.pinned (OpenSpec.ofChange fnExactGreatestTableWrong)

/-- 'laws.FnExactRankDescending': WHATEVER THE INPUT: true; the input reads as it did. -/
def fnExactRankDescendingSpec : ChangeSpec := { name := "fnExactRankDescending", fn := fun _ => fun
  | [d1, d2] => { results := [.lit (.bool true)], args := [d1, d2] }
  | _ => none }
def fnExactRankDescendingRow : OpenClaim := { program := "ytdcdkckpmkfjdaa", sum := "9c170bc7cc6e68163f7b2269b64c8e94e819cdeda36b537debfcbe0f719307fd", func := "loop.example/g01123/laws.FnExactRankDescending", spec := "fnExactRankDescending", unfollowed := true, recurses := true, apart := false }
def FnExactRankDescendingSaid : Prop := fnExactRankDescendingRow.holds Try.pinned (OpenSpec.ofChange fnExactRankDescendingSpec)

/-- ITS FALSE NEIGHBOUR: 'it returns false'. Refute it at one input. -/
def fnExactRankDescendingWrong : ChangeSpec := { name := "fnExactRankDescending", fn := fun _ => fun
  | [d1, d2] => { results := [.lit (.bool false)], args := [d1, d2] }
  | _ => none }
def FnExactRankDescendingWrongFalsely : Prop := fnExactRankDescendingRow.holds Try.pinned (OpenSpec.ofChange fnExactRankDescendingWrong)

/- THE SECOND FORM. 'bulk': how many values and letters a reading holds, each counted each time it is reached (what is shared counts as often as it is met; a slice's spare places count too). A statement '..UptoSaid' is the law's where the arguments, and the package variables that the reading takes, are together of bulk at most 1048576: NARROWER than '..Said'. Prove '..Said' where nothing that the law and all that it calls make is longer than what came in: it says more and counts as full. Else prove '..UptoSaid'. A law counts once. -/
mutual
def uptoBulk {H : Type} : DataW H → Nat
  | .lit (.string bytes) => bytes.length + 1
  | .lit _ => 1
  | .nil => 1
  | .ptr d => uptoBulk d + 1
  | .slice elems spare => uptoBulkAll elems + uptoBulkAll spare + 1
  | .agg parts => uptoBulkAll parts + 1
  | .iface _ d => uptoBulk d + 1
  | .map entries => uptoBulkEntries entries + 1
  | .held _ => 1
def uptoBulkAll {H : Type} : List (DataW H) → Nat
  | [] => 0
  | d :: r => uptoBulk d + uptoBulkAll r
def uptoBulkEntries {H : Type} : List (Lit × DataW H) → Nat
  | [] => 0
  | x :: r => uptoBulkEntry x + uptoBulkEntries r
def uptoBulkEntry {H : Type} : Lit × DataW H → Nat
  | (.string bytes, d) => bytes.length + uptoBulk d + 1
  | (_, d) => uptoBulk d + 1
 end
def uptoSmall : (H : Type) → List (DataW H) → Bool := fun _ ds => decide (uptoBulkAll ds ≤ 1048576)
def OpenSpec.upto (s : _root_.Go.ChangeSpec) : _root_.Go.OpenSpec := { _root_.Go.OpenSpec.ofChange s with cond := some uptoSmall }

/-- 'laws.FnExactMinusTable', WHERE WHAT IT READS IS OF BULK AT MOST 1048576: true; the input reads as it did. -/
def fnExactMinusTableUptoRow : OpenClaim := { program := "ytdcdkckpmkfjdaa", sum := "9c170bc7cc6e68163f7b2269b64c8e94e819cdeda36b537debfcbe0f719307fd", func := "loop.example/g01123/laws.FnExactMinusTable", spec := "fnExactMinusTable", unfollowed := true, recurses := true, apart := false, narrowed := true }
def FnExactMinusTableUptoSaid : Prop := fnExactMinusTableUptoRow.holds Try.pinned (OpenSpec.upto fnExactMinusTableSpec)

/-- 'laws.FnExactInversionTable', WHERE WHAT IT READS IS OF BULK AT MOST 1048576: true; the input reads as it did. -/
def fnExactInversionTableUptoRow : OpenClaim := { program := "ytdcdkckpmkfjdaa", sum := "9c170bc7cc6e68163f7b2269b64c8e94e819cdeda36b537debfcbe0f719307fd", func := "loop.example/g01123/laws.FnExactInversionTable", spec := "fnExactInversionTable", unfollowed := true, recurses := true, apart := false, narrowed := true }
def FnExactInversionTableUptoSaid : Prop := fnExactInversionTableUptoRow.holds Try.pinned (OpenSpec.upto fnExactInversionTableSpec)

/-- 'laws.FnExactWeightSum', WHERE WHAT IT READS IS OF BULK AT MOST 1048576: true; the input reads as it did. -/
def fnExactWeightSumUptoRow : OpenClaim := { program := "ytdcdkckpmkfjdaa", sum := "9c170bc7cc6e68163f7b2269b64c8e94e819cdeda36b537debfcbe0f719307fd", func := "loop.example/g01123/laws.FnExactWeightSum", spec := "fnExactWeightSum", unfollowed := true, recurses := true, apart := false, narrowed := true }
def FnExactWeightSumUptoSaid : Prop := fnExactWeightSumUptoRow.holds Try.pinned (OpenSpec.upto fnExactWeightSumSpec)

/-- 'laws.FnExactSetSum', WHERE WHAT IT READS IS OF BULK AT MOST 1048576: true; the input reads as it did. -/
def fnExactSetSumUptoRow : OpenClaim := { program := "ytdcdkckpmkfjdaa", sum := "9c170bc7cc6e68163f7b2269b64c8e94e819cdeda36b537debfcbe0f719307fd", func := "loop.example/g01123/laws.FnExactSetSum", spec := "fnExactSetSum", unfollowed := true, recurses := true, apart := false, narrowed := true }
def FnExactSetSumUptoSaid : Prop := fnExactSetSumUptoRow.holds Try.pinned (OpenSpec.upto fnExactSetSumSpec)

/-- 'laws.FnExactFreeSum', WHERE WHAT IT READS IS OF BULK AT MOST 1048576: true; the input reads as it did. -/
def fnExactFreeSumUptoRow : OpenClaim := { program := "ytdcdkckpmkfjdaa", sum := "9c170bc7cc6e68163f7b2269b64c8e94e819cdeda36b537debfcbe0f719307fd", func := "loop.example/g01123/laws.FnExactFreeSum", spec := "fnExactFreeSum", unfollowed := true, recurses := true, apart := false, narrowed := true }
def FnExactFreeSumUptoSaid : Prop := fnExactFreeSumUptoRow.holds Try.pinned (OpenSpec.upto fnExactFreeSumSpec)

/-- 'laws.FnExactJointTable', WHERE WHAT IT READS IS OF BULK AT MOST 1048576: true; the input reads as it did. -/
def fnExactJointTableUptoRow : OpenClaim := { program := "ytdcdkckpmkfjdaa", sum := "9c170bc7cc6e68163f7b2269b64c8e94e819cdeda36b537debfcbe0f719307fd", func := "loop.example/g01123/laws.FnExactJointTable", spec := "fnExactJointTable", unfollowed := true, recurses := true, apart := false, narrowed := true }
def FnExactJointTableUptoSaid : Prop := fnExactJointTableUptoRow.holds Try.pinned (OpenSpec.upto fnExactJointTableSpec)

/-- 'laws.FnExactSpreadOfParts', WHERE WHAT IT READS IS OF BULK AT MOST 1048576: true; the input reads as it did. -/
def fnExactSpreadOfPartsUptoRow : OpenClaim := { program := "ytdcdkckpmkfjdaa", sum := "9c170bc7cc6e68163f7b2269b64c8e94e819cdeda36b537debfcbe0f719307fd", func := "loop.example/g01123/laws.FnExactSpreadOfParts", spec := "fnExactSpreadOfParts", unfollowed := true, recurses := true, apart := false, narrowed := true }
def FnExactSpreadOfPartsUptoSaid : Prop := fnExactSpreadOfPartsUptoRow.holds Try.pinned (OpenSpec.upto fnExactSpreadOfPartsSpec)

/-- 'laws.FnExactFirstRows', WHERE WHAT IT READS IS OF BULK AT MOST 1048576: true; the input reads as it did. -/
def fnExactFirstRowsUptoRow : OpenClaim := { program := "ytdcdkckpmkfjdaa", sum := "9c170bc7cc6e68163f7b2269b64c8e94e819cdeda36b537debfcbe0f719307fd", func := "loop.example/g01123/laws.FnExactFirstRows", spec := "fnExactFirstRows", unfollowed := true, recurses := true, apart := false, narrowed := true }
def FnExactFirstRowsUptoSaid : Prop := fnExactFirstRowsUptoRow.holds Try.pinned (OpenSpec.upto fnExactFirstRowsSpec)

/-- 'laws.FnExactRowsBelow', WHERE WHAT IT READS IS OF BULK AT MOST 1048576: true; the input reads as it did. -/
def fnExactRowsBelowUptoRow : OpenClaim := { program := "ytdcdkckpmkfjdaa", sum := "9c170bc7cc6e68163f7b2269b64c8e94e819cdeda36b537debfcbe0f719307fd", func := "loop.example/g01123/laws.FnExactRowsBelow", spec := "fnExactRowsBelow", unfollowed := true, recurses := true, apart := false, narrowed := true }
def FnExactRowsBelowUptoSaid : Prop := fnExactRowsBelowUptoRow.holds Try.pinned (OpenSpec.upto fnExactRowsBelowSpec)

/-- 'laws.FnExactAllDescending', WHERE WHAT IT READS IS OF BULK AT MOST 1048576: true; the input reads as it did. -/
def fnExactAllDescendingUptoRow : OpenClaim := { program := "ytdcdkckpmkfjdaa", sum := "9c170bc7cc6e68163f7b2269b64c8e94e819cdeda36b537debfcbe0f719307fd", func := "loop.example/g01123/laws.FnExactAllDescending", spec := "fnExactAllDescending", unfollowed := true, recurses := true, apart := false, narrowed := true }
def FnExactAllDescendingUptoSaid : Prop := fnExactAllDescendingUptoRow.holds Try.pinned (OpenSpec.upto fnExactAllDescendingSpec)

/-- 'laws.FnExactCountDescending', WHERE WHAT IT READS IS OF BULK AT MOST 1048576: true; the input reads as it did. -/
def fnExactCountDescendingUptoRow : OpenClaim := { program := "ytdcdkckpmkfjdaa", sum := "9c170bc7cc6e68163f7b2269b64c8e94e819cdeda36b537debfcbe0f719307fd", func := "loop.example/g01123/laws.FnExactCountDescending", spec := "fnExactCountDescending", unfollowed := true, recurses := true, apart := false, narrowed := true }
def FnExactCountDescendingUptoSaid : Prop := fnExactCountDescendingUptoRow.holds Try.pinned (OpenSpec.upto fnExactCountDescendingSpec)

/-- 'laws.FnExactDescendingWith', WHERE WHAT IT READS IS OF BULK AT MOST 1048576: true; the input reads as it did. -/
def fnExactDescendingWithUptoRow : OpenClaim := { program := "ytdcdkckpmkfjdaa", sum := "9c170bc7cc6e68163f7b2269b64c8e94e819cdeda36b537debfcbe0f719307fd", func := "loop.example/g01123/laws.FnExactDescendingWith", spec := "fnExactDescendingWith", unfollowed := true, recurses := true, apart := false, narrowed := true }
def FnExactDescendingWithUptoSaid : Prop := fnExactDescendingWithUptoRow.holds Try.pinned (OpenSpec.upto fnExactDescendingWithSpec)

/-- 'laws.FnExactGreatestTable', WHERE WHAT IT READS IS OF BULK AT MOST 1048576: true; the input reads as it did. -/
def fnExactGreatestTableUptoRow : OpenClaim := { program := "ytdcdkckpmkfjdaa", sum := "9c170bc7cc6e68163f7b2269b64c8e94e819cdeda36b537debfcbe0f719307fd", func := "loop.example/g01123/laws.FnExactGreatestTable", spec := "fnExactGreatestTable", unfollowed := true, recurses := true, apart := false, narrowed := true }
def FnExactGreatestTableUptoSaid : Prop := fnExactGreatestTableUptoRow.holds Try.pinned (OpenSpec.upto fnExactGreatestTableSpec)

/-- 'laws.FnExactRankDescending', WHERE WHAT IT READS IS OF BULK AT MOST 1048576: true; the input reads as it did. -/
def fnExactRankDescendingUptoRow : OpenClaim := { program := "ytdcdkckpmkfjdaa", sum := "9c170bc7cc6e68163f7b2269b64c8e94e819cdeda36b537debfcbe0f719307fd", func := "loop.example/g01123/laws.FnExactRankDescending", spec := "fnExactRankDescending", unfollowed := true, recurses := true, apart := false, narrowed := true }
def FnExactRankDescendingUptoSaid : Prop := fnExactRankDescendingUptoRow.holds Try.pinned (OpenSpec.upto fnExactRankDescendingSpec)

end Rows
end Go.Proofs.Ytdcdkckpmkfjdaa
