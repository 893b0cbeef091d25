/-
  No cell of these rows narrows 'for every input' (looked for: loops, veiled, ifaces, maps, wideKeys, modest, calm, conditions, laid).
  DERIVED. THE GIVEN ROWS OF THIS SEAT. 7 by the template 'for every input the law returns true; each argument reads behind the call as it read before'; 0 by the template 'total and deterministic' (their statements: YthbkjaieenochaaTotals.lean).
  GIVEN WITH THE SEED: the statements are not yours to turn. If you find one false, say at which input.
  Laid BY PROGRAM, IN A SANDBOX (cutbox-rows.mjs): the forced cells as the released guide's own fill.sh prints them over the translation 59a42792082c5afa… (all of the seat's roots in one cut). By AI agents, Wed Nov 11 2026. No macro, syntax, notation, axiom, sorry.
-/
import Derived.Test.YthbkjaieenochaaChecked
import GoSem.Claim
import GoSem.ClaimJoined
import GoSem.ClaimMapViews
import Derived.JoinedTies
import Derived.KernelRfl
namespace Go.Proofs.Ythbkjaieenochaa
/- THE CELL 'sum', in the pinned program and in every row, IS THE sha256 OF THE DUMP (.gsa) THAT YthbkjaieenochaaProg.lean LOADS. Nothing in Lean hashes anything: it is a label: what it is worth is what the hold of that sum in a sandbox is worth. -/
noncomputable def Try.pinned : Pinned := { name := "ythbkjaieenochaa", sum := "59a42792082c5afae6c9cf865a278f573db02ecb238cef31a8a92a5daf05b933", checked := Try.checked }
namespace Rows
def none {H : Type} : Left H := { results := [], args := [] }

/-- 'laws.FnExactAllPatterns': WHATEVER THE INPUT: true; the input reads as it did. -/
def fnExactAllPatternsSpec : ChangeSpec := { name := "fnExactAllPatterns", fn := fun _ => fun
  | [d] => { results := [.lit (.bool true)], args := [d] }
  | _ => none }
def fnExactAllPatternsRow : OpenClaim := { program := "ythbkjaieenochaa", sum := "59a42792082c5afae6c9cf865a278f573db02ecb238cef31a8a92a5daf05b933", func := "loop.example/g01123/laws.FnExactAllPatterns", spec := "fnExactAllPatterns", unfollowed := true, recurses := true, apart := false }
def FnExactAllPatternsSaid : Prop := fnExactAllPatternsRow.holds Try.pinned (OpenSpec.ofChange fnExactAllPatternsSpec)

/-- ITS FALSE NEIGHBOUR: 'it returns false'. Refute it at one input. -/
def fnExactAllPatternsWrong : ChangeSpec := { name := "fnExactAllPatterns", fn := fun _ => fun
  | [d] => { results := [.lit (.bool false)], args := [d] }
  | _ => none }
def FnExactAllPatternsWrongFalsely : Prop := fnExactAllPatternsRow.holds Try.pinned (OpenSpec.ofChange fnExactAllPatternsWrong)

/-- 'laws.FnExactLineLengths': WHATEVER THE INPUT: true; the input reads as it did. -/
def fnExactLineLengthsSpec : ChangeSpec := { name := "fnExactLineLengths", fn := fun _ => fun
  | [d] => { results := [.lit (.bool true)], args := [d] }
  | _ => none }
def fnExactLineLengthsRow : OpenClaim := { program := "ythbkjaieenochaa", sum := "59a42792082c5afae6c9cf865a278f573db02ecb238cef31a8a92a5daf05b933", func := "loop.example/g01123/laws.FnExactLineLengths", spec := "fnExactLineLengths", unfollowed := true, recurses := true, apart := false }
def FnExactLineLengthsSaid : Prop := fnExactLineLengthsRow.holds Try.pinned (OpenSpec.ofChange fnExactLineLengthsSpec)

/-- ITS FALSE NEIGHBOUR: 'it returns false'. Refute it at one input. -/
def fnExactLineLengthsWrong : ChangeSpec := { name := "fnExactLineLengths", fn := fun _ => fun
  | [d] => { results := [.lit (.bool false)], args := [d] }
  | _ => none }
def FnExactLineLengthsWrongFalsely : Prop := fnExactLineLengthsRow.holds Try.pinned (OpenSpec.ofChange fnExactLineLengthsWrong)

/-- 'laws.FnExactWayFrom': WHATEVER THE INPUT: true; the input reads as it did. -/
def fnExactWayFromSpec : ChangeSpec := { name := "fnExactWayFrom", fn := fun _ => fun
  | [d1, d2] => { results := [.lit (.bool true)], args := [d1, d2] }
  | _ => none }
def fnExactWayFromRow : OpenClaim := { program := "ythbkjaieenochaa", sum := "59a42792082c5afae6c9cf865a278f573db02ecb238cef31a8a92a5daf05b933", func := "loop.example/g01123/laws.FnExactWayFrom", spec := "fnExactWayFrom", unfollowed := true, recurses := true, apart := false }
def FnExactWayFromSaid : Prop := fnExactWayFromRow.holds Try.pinned (OpenSpec.ofChange fnExactWayFromSpec)

/-- ITS FALSE NEIGHBOUR: 'it returns false'. Refute it at one input. -/
def fnExactWayFromWrong : ChangeSpec := { name := "fnExactWayFrom", fn := fun _ => fun
  | [d1, d2] => { results := [.lit (.bool false)], args := [d1, d2] }
  | _ => none }
def FnExactWayFromWrongFalsely : Prop := fnExactWayFromRow.holds Try.pinned (OpenSpec.ofChange fnExactWayFromWrong)

/-- 'laws.FnExactPatternOf': WHATEVER THE INPUT: true; the input reads as it did. -/
def fnExactPatternOfSpec : ChangeSpec := { name := "fnExactPatternOf", fn := fun _ => fun
  | [d] => { results := [.lit (.bool true)], args := [d] }
  | _ => none }
def fnExactPatternOfRow : OpenClaim := { program := "ythbkjaieenochaa", sum := "59a42792082c5afae6c9cf865a278f573db02ecb238cef31a8a92a5daf05b933", func := "loop.example/g01123/laws.FnExactPatternOf", spec := "fnExactPatternOf", unfollowed := true, recurses := true, apart := false }
def FnExactPatternOfSaid : Prop := fnExactPatternOfRow.holds Try.pinned (OpenSpec.ofChange fnExactPatternOfSpec)

/-- ITS FALSE NEIGHBOUR: 'it returns false'. Refute it at one input. -/
def fnExactPatternOfWrong : ChangeSpec := { name := "fnExactPatternOf", fn := fun _ => fun
  | [d] => { results := [.lit (.bool false)], args := [d] }
  | _ => none }
def FnExactPatternOfWrongFalsely : Prop := fnExactPatternOfRow.holds Try.pinned (OpenSpec.ofChange fnExactPatternOfWrong)

/-- 'laws.FnExactCountClosed': WHATEVER THE INPUT: true; the input reads as it did. -/
def fnExactCountClosedSpec : ChangeSpec := { name := "fnExactCountClosed", fn := fun _ => fun
  | [d] => { results := [.lit (.bool true)], args := [d] }
  | _ => none }
def fnExactCountClosedRow : OpenClaim := { program := "ythbkjaieenochaa", sum := "59a42792082c5afae6c9cf865a278f573db02ecb238cef31a8a92a5daf05b933", func := "loop.example/g01123/laws.FnExactCountClosed", spec := "fnExactCountClosed", unfollowed := true, recurses := true, apart := false }
def FnExactCountClosedSaid : Prop := fnExactCountClosedRow.holds Try.pinned (OpenSpec.ofChange fnExactCountClosedSpec)

/-- ITS FALSE NEIGHBOUR: 'it returns false'. Refute it at one input. -/
def fnExactCountClosedWrong : ChangeSpec := { name := "fnExactCountClosed", fn := fun _ => fun
  | [d] => { results := [.lit (.bool false)], args := [d] }
  | _ => none }
def FnExactCountClosedWrongFalsely : Prop := fnExactCountClosedRow.holds Try.pinned (OpenSpec.ofChange fnExactCountClosedWrong)

/-- 'laws.FnExactSignsWithPattern': WHATEVER THE INPUT: true; the input reads as it did. -/
def fnExactSignsWithPatternSpec : ChangeSpec := { name := "fnExactSignsWithPattern", fn := fun _ => fun
  | [d] => { results := [.lit (.bool true)], args := [d] }
  | _ => none }
def fnExactSignsWithPatternRow : OpenClaim := { program := "ythbkjaieenochaa", sum := "59a42792082c5afae6c9cf865a278f573db02ecb238cef31a8a92a5daf05b933", func := "loop.example/g01123/laws.FnExactSignsWithPattern", spec := "fnExactSignsWithPattern", unfollowed := true, recurses := true, apart := false }
def FnExactSignsWithPatternSaid : Prop := fnExactSignsWithPatternRow.holds Try.pinned (OpenSpec.ofChange fnExactSignsWithPatternSpec)

/-- ITS FALSE NEIGHBOUR: 'it returns false'. Refute it at one input. -/
def fnExactSignsWithPatternWrong : ChangeSpec := { name := "fnExactSignsWithPattern", fn := fun _ => fun
  | [d] => { results := [.lit (.bool false)], args := [d] }
  | _ => none }
def FnExactSignsWithPatternWrongFalsely : Prop := fnExactSignsWithPatternRow.holds Try.pinned (OpenSpec.ofChange fnExactSignsWithPatternWrong)

/-- 'laws.FnExactCountByPattern': WHATEVER THE INPUT: true; the input reads as it did. -/
def fnExactCountByPatternSpec : ChangeSpec := { name := "fnExactCountByPattern", fn := fun _ => fun
  | [d] => { results := [.lit (.bool true)], args := [d] }
  | _ => none }
def fnExactCountByPatternRow : OpenClaim := { program := "ythbkjaieenochaa", sum := "59a42792082c5afae6c9cf865a278f573db02ecb238cef31a8a92a5daf05b933", func := "loop.example/g01123/laws.FnExactCountByPattern", spec := "fnExactCountByPattern", unfollowed := true, recurses := true, apart := false }
def FnExactCountByPatternSaid : Prop := fnExactCountByPatternRow.holds Try.pinned (OpenSpec.ofChange fnExactCountByPatternSpec)

/-- ITS FALSE NEIGHBOUR: 'it returns false'. Refute it at one input. -/
def fnExactCountByPatternWrong : ChangeSpec := { name := "fnExactCountByPattern", fn := fun _ => fun
  | [d] => { results := [.lit (.bool false)], args := [d] }
  | _ => none }
def FnExactCountByPatternWrongFalsely : Prop := fnExactCountByPatternRow.holds Try.pinned (OpenSpec.ofChange fnExactCountByPatternWrong)

/- THE SECOND FORM. 'bulk': how many values and letters a reading holds, each counted each time it is reached (what is shared counts as often as it is met; a slice's spare places count too). A statement '..UptoSaid' is the law's where the arguments, and the package variables that the reading takes, are together of bulk at most 1048576: NARROWER than '..Said'. Prove '..Said' where nothing that the law and all that it calls make is longer than what came in: it says more and counts as full. Else prove '..UptoSaid'. A law counts once. -/
mutual
def uptoBulk {H : Type} : DataW H → Nat
  | .lit (.string bytes) => bytes.length + 1
  | .lit _ => 1
  | .nil => 1
  | .ptr d => uptoBulk d + 1
  | .slice elems spare => uptoBulkAll elems + uptoBulkAll spare + 1
  | .agg parts => uptoBulkAll parts + 1
  | .iface _ d => uptoBulk d + 1
  | .map entries => uptoBulkEntries entries + 1
  | .held _ => 1
def uptoBulkAll {H : Type} : List (DataW H) → Nat
  | [] => 0
  | d :: r => uptoBulk d + uptoBulkAll r
def uptoBulkEntries {H : Type} : List (Lit × DataW H) → Nat
  | [] => 0
  | x :: r => uptoBulkEntry x + uptoBulkEntries r
def uptoBulkEntry {H : Type} : Lit × DataW H → Nat
  | (.string bytes, d) => bytes.length + uptoBulk d + 1
  | (_, d) => uptoBulk d + 1
 end
def uptoSmall : (H : Type) → List (DataW H) → Bool := fun _ ds => decide (uptoBulkAll ds ≤ 1048576)
def OpenSpec.upto (s : _root_.Go.ChangeSpec) : _root_.Go.OpenSpec := { _root_.Go.OpenSpec.ofChange s with cond := some uptoSmall }

/-- 'laws.FnExactAllPatterns', WHERE WHAT IT READS IS OF BULK AT MOST 1048576: true; the input reads as it did. -/
def fnExactAllPatternsUptoRow : OpenClaim := { program := "ythbkjaieenochaa", sum := "59a42792082c5afae6c9cf865a278f573db02ecb238cef31a8a92a5daf05b933", func := "loop.example/g01123/laws.FnExactAllPatterns", spec := "fnExactAllPatterns", unfollowed := true, recurses := true, apart := false, narrowed := true }
def FnExactAllPatternsUptoSaid : Prop := fnExactAllPatternsUptoRow.holds Try.pinned (OpenSpec.upto fnExactAllPatternsSpec)

/-- 'laws.FnExactLineLengths', WHERE WHAT IT READS IS OF BULK AT MOST 1048576: true; the input reads as it did. -/
def fnExactLineLengthsUptoRow : OpenClaim := { program := "ythbkjaieenochaa", sum := "59a42792082c5afae6c9cf865a278f573db02ecb238cef31a8a92a5daf05b933", func := "loop.example/g01123/laws.FnExactLineLengths", spec := "fnExactLineLengths", unfollowed := true, recurses := true, apart := false, narrowed := true }
def FnExactLineLengthsUptoSaid : Prop := fnExactLineLengthsUptoRow.holds Try.pinned (OpenSpec.upto fnExactLineLengthsSpec)

/-- 'laws.FnExactWayFrom', WHERE WHAT IT READS IS OF BULK AT MOST 1048576: true; the input reads as it did. -/
def fnExactWayFromUptoRow : OpenClaim := { program := "ythbkjaieenochaa", sum := "59a42792082c5afae6c9cf865a278f573db02ecb238cef31a8a92a5daf05b933", func := "loop.example/g01123/laws.FnExactWayFrom", spec := "fnExactWayFrom", unfollowed := true, recurses := true, apart := false, narrowed := true }
def FnExactWayFromUptoSaid : Prop := fnExactWayFromUptoRow.holds Try.pinned (OpenSpec.upto fnExactWayFromSpec)

/-- 'laws.FnExactPatternOf', WHERE WHAT IT READS IS OF BULK AT MOST 1048576: true; the input reads as it did. -/
def fnExactPatternOfUptoRow : OpenClaim := { program := "ythbkjaieenochaa", sum := "59a42792082c5afae6c9cf865a278f573db02ecb238cef31a8a92a5daf05b933", func := "loop.example/g01123/laws.FnExactPatternOf", spec := "fnExactPatternOf", unfollowed := true, recurses := true, apart := false, narrowed := true }
def FnExactPatternOfUptoSaid : Prop := fnExactPatternOfUptoRow.holds Try.pinned (OpenSpec.upto fnExactPatternOfSpec)

/-- 'laws.FnExactCountClosed', WHERE WHAT IT READS IS OF BULK AT MOST 1048576: true; the input reads as it did. -/
def fnExactCountClosedUptoRow : OpenClaim := { program := "ythbkjaieenochaa", sum := "59a42792082c5afae6c9cf865a278f573db02ecb238cef31a8a92a5daf05b933", func := "loop.example/g01123/laws.FnExactCountClosed", spec := "fnExactCountClosed", unfollowed := true, recurses := true, apart := false, narrowed := true }
def FnExactCountClosedUptoSaid : Prop := fnExactCountClosedUptoRow.holds Try.pinned (OpenSpec.upto fnExactCountClosedSpec)

/-- 'laws.FnExactSignsWithPattern', WHERE WHAT IT READS IS OF BULK AT MOST 1048576: true; the input reads as it did. -/
def fnExactSignsWithPatternUptoRow : OpenClaim := { program := "ythbkjaieenochaa", sum := "59a42792082c5afae6c9cf865a278f573db02ecb238cef31a8a92a5daf05b933", func := "loop.example/g01123/laws.FnExactSignsWithPattern", spec := "fnExactSignsWithPattern", unfollowed := true, recurses := true, apart := false, narrowed := true }
def FnExactSignsWithPatternUptoSaid : Prop := fnExactSignsWithPatternUptoRow.holds Try.pinned (OpenSpec.upto fnExactSignsWithPatternSpec)

/-- 'laws.FnExactCountByPattern', WHERE WHAT IT READS IS OF BULK AT MOST 1048576: true; the input reads as it did. -/
def fnExactCountByPatternUptoRow : OpenClaim := { program := "ythbkjaieenochaa", sum := "59a42792082c5afae6c9cf865a278f573db02ecb238cef31a8a92a5daf05b933", func := "loop.example/g01123/laws.FnExactCountByPattern", spec := "fnExactCountByPattern", unfollowed := true, recurses := true, apart := false, narrowed := true }
def FnExactCountByPatternUptoSaid : Prop := fnExactCountByPatternUptoRow.holds Try.pinned (OpenSpec.upto fnExactCountByPatternSpec)

end Rows
end Go.Proofs.Ythbkjaieenochaa
