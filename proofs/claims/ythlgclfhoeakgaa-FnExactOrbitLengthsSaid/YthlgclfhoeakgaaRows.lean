/-
  No cell of these rows narrows 'for every input' (looked for: loops, veiled, ifaces, maps, wideKeys, modest, calm, conditions, laid).
  DERIVED. THE GIVEN ROWS OF THIS SEAT. 4 by the template 'for every input the law returns true; each argument reads behind the call as it read before'; 0 by the template 'total and deterministic' (their statements: YthlgclfhoeakgaaTotals.lean).
  GIVEN WITH THE SEED: the statements are not yours to turn. If you find one false, say at which input.
  Laid BY PROGRAM, IN A SANDBOX (cutbox-rows.mjs): the forced cells as the released guide's own fill.sh prints them over the translation a21144377d8b4ad3… (all of the seat's roots in one cut). By AI agents, Wed Nov 11 2026. No macro, syntax, notation, axiom, sorry.
-/
import Derived.Test.YthlgclfhoeakgaaChecked
import GoSem.Claim
import GoSem.ClaimJoined
import GoSem.ClaimMapViews
import Derived.JoinedTies
import Derived.KernelRfl
namespace Go.Proofs.Ythlgclfhoeakgaa
/- THE CELL 'sum', in the pinned program and in every row, IS THE sha256 OF THE DUMP (.gsa) THAT YthlgclfhoeakgaaProg.lean LOADS. Nothing in Lean hashes anything: it is a label: what it is worth is what the hold of that sum in a sandbox is worth. -/
noncomputable def Try.pinned : Pinned := { name := "ythlgclfhoeakgaa", sum := "a21144377d8b4ad3fa5923b51cee54a05ba8830eed42a48e5f8ab8b237ef0b1d", checked := Try.checked }
namespace Rows
def none {H : Type} : Left H := { results := [], args := [] }

/-- 'laws.FnExactLeastOfOrbit': WHATEVER THE INPUT: true; the input reads as it did. -/
def fnExactLeastOfOrbitSpec : ChangeSpec := { name := "fnExactLeastOfOrbit", fn := fun _ => fun
  | [d] => { results := [.lit (.bool true)], args := [d] }
  | _ => none }
def fnExactLeastOfOrbitRow : OpenClaim := { program := "ythlgclfhoeakgaa", sum := "a21144377d8b4ad3fa5923b51cee54a05ba8830eed42a48e5f8ab8b237ef0b1d", func := "loop.example/g01123/laws.FnExactLeastOfOrbit", spec := "fnExactLeastOfOrbit", unfollowed := true, recurses := true, apart := false }
def FnExactLeastOfOrbitSaid : Prop := fnExactLeastOfOrbitRow.holds Try.pinned (OpenSpec.ofChange fnExactLeastOfOrbitSpec)

/-- ITS FALSE NEIGHBOUR: 'it returns false'. Refute it at one input. -/
def fnExactLeastOfOrbitWrong : ChangeSpec := { name := "fnExactLeastOfOrbit", fn := fun _ => fun
  | [d] => { results := [.lit (.bool false)], args := [d] }
  | _ => none }
def FnExactLeastOfOrbitWrongFalsely : Prop := fnExactLeastOfOrbitRow.holds Try.pinned (OpenSpec.ofChange fnExactLeastOfOrbitWrong)

/-- 'laws.FnExactCountOrbits': WHATEVER THE INPUT: true; the input reads as it did. -/
def fnExactCountOrbitsSpec : ChangeSpec := { name := "fnExactCountOrbits", fn := fun _ => fun
  | [d] => { results := [.lit (.bool true)], args := [d] }
  | _ => none }
def fnExactCountOrbitsRow : OpenClaim := { program := "ythlgclfhoeakgaa", sum := "a21144377d8b4ad3fa5923b51cee54a05ba8830eed42a48e5f8ab8b237ef0b1d", func := "loop.example/g01123/laws.FnExactCountOrbits", spec := "fnExactCountOrbits", inPlace := ["internal/abi.NoEscape", "internal/bytealg.MakeNoZero"], unfollowed := true, recurses := true, apart := false }
def FnExactCountOrbitsSaid : Prop := fnExactCountOrbitsRow.holds Try.pinned (OpenSpec.ofChange fnExactCountOrbitsSpec)

/-- ITS FALSE NEIGHBOUR: 'it returns false'. Refute it at one input. -/
def fnExactCountOrbitsWrong : ChangeSpec := { name := "fnExactCountOrbits", fn := fun _ => fun
  | [d] => { results := [.lit (.bool false)], args := [d] }
  | _ => none }
def FnExactCountOrbitsWrongFalsely : Prop := fnExactCountOrbitsRow.holds Try.pinned (OpenSpec.ofChange fnExactCountOrbitsWrong)

/-- 'laws.FnExactCountFixed': WHATEVER THE INPUT: true; the input reads as it did. -/
def fnExactCountFixedSpec : ChangeSpec := { name := "fnExactCountFixed", fn := fun _ => fun
  | [d1, d2] => { results := [.lit (.bool true)], args := [d1, d2] }
  | _ => none }
def fnExactCountFixedRow : OpenClaim := { program := "ythlgclfhoeakgaa", sum := "a21144377d8b4ad3fa5923b51cee54a05ba8830eed42a48e5f8ab8b237ef0b1d", func := "loop.example/g01123/laws.FnExactCountFixed", spec := "fnExactCountFixed", inPlace := ["internal/abi.NoEscape", "internal/bytealg.MakeNoZero"], unfollowed := true, recurses := true, apart := false }
def FnExactCountFixedSaid : Prop := fnExactCountFixedRow.holds Try.pinned (OpenSpec.ofChange fnExactCountFixedSpec)

/-- ITS FALSE NEIGHBOUR: 'it returns false'. Refute it at one input. -/
def fnExactCountFixedWrong : ChangeSpec := { name := "fnExactCountFixed", fn := fun _ => fun
  | [d1, d2] => { results := [.lit (.bool false)], args := [d1, d2] }
  | _ => none }
def FnExactCountFixedWrongFalsely : Prop := fnExactCountFixedRow.holds Try.pinned (OpenSpec.ofChange fnExactCountFixedWrong)

/-- 'laws.FnExactOrbitLengths': WHATEVER THE INPUT: true; the input reads as it did. -/
def fnExactOrbitLengthsSpec : ChangeSpec := { name := "fnExactOrbitLengths", fn := fun _ => fun
  | [d] => { results := [.lit (.bool true)], args := [d] }
  | _ => none }
def fnExactOrbitLengthsRow : OpenClaim := { program := "ythlgclfhoeakgaa", sum := "a21144377d8b4ad3fa5923b51cee54a05ba8830eed42a48e5f8ab8b237ef0b1d", func := "loop.example/g01123/laws.FnExactOrbitLengths", spec := "fnExactOrbitLengths", inPlace := ["internal/abi.NoEscape", "internal/bytealg.MakeNoZero"], unfollowed := true, recurses := true, apart := false }
def FnExactOrbitLengthsSaid : Prop := fnExactOrbitLengthsRow.holds Try.pinned (OpenSpec.ofChange fnExactOrbitLengthsSpec)

/-- ITS FALSE NEIGHBOUR: 'it returns false'. Refute it at one input. -/
def fnExactOrbitLengthsWrong : ChangeSpec := { name := "fnExactOrbitLengths", fn := fun _ => fun
  | [d] => { results := [.lit (.bool false)], args := [d] }
  | _ => none }
def FnExactOrbitLengthsWrongFalsely : Prop := fnExactOrbitLengthsRow.holds Try.pinned (OpenSpec.ofChange fnExactOrbitLengthsWrong)

/- THE SECOND FORM. 'bulk': how many values and letters a reading holds, each counted each time it is reached (what is shared counts as often as it is met; a slice's spare places count too). A statement '..UptoSaid' is the law's where the arguments, and the package variables that the reading takes, are together of bulk at most 1048576: NARROWER than '..Said'. Prove '..Said' where nothing that the law and all that it calls make is longer than what came in: it says more and counts as full. Else prove '..UptoSaid'. A law counts once. -/
mutual
def uptoBulk {H : Type} : DataW H → Nat
  | .lit (.string bytes) => bytes.length + 1
  | .lit _ => 1
  | .nil => 1
  | .ptr d => uptoBulk d + 1
  | .slice elems spare => uptoBulkAll elems + uptoBulkAll spare + 1
  | .agg parts => uptoBulkAll parts + 1
  | .iface _ d => uptoBulk d + 1
  | .map entries => uptoBulkEntries entries + 1
  | .held _ => 1
def uptoBulkAll {H : Type} : List (DataW H) → Nat
  | [] => 0
  | d :: r => uptoBulk d + uptoBulkAll r
def uptoBulkEntries {H : Type} : List (Lit × DataW H) → Nat
  | [] => 0
  | x :: r => uptoBulkEntry x + uptoBulkEntries r
def uptoBulkEntry {H : Type} : Lit × DataW H → Nat
  | (.string bytes, d) => bytes.length + uptoBulk d + 1
  | (_, d) => uptoBulk d + 1
 end
def uptoSmall : (H : Type) → List (DataW H) → Bool := fun _ ds => decide (uptoBulkAll ds ≤ 1048576)
def OpenSpec.upto (s : _root_.Go.ChangeSpec) : _root_.Go.OpenSpec := { _root_.Go.OpenSpec.ofChange s with cond := some uptoSmall }

/-- 'laws.FnExactLeastOfOrbit', WHERE WHAT IT READS IS OF BULK AT MOST 1048576: true; the input reads as it did. -/
def fnExactLeastOfOrbitUptoRow : OpenClaim := { program := "ythlgclfhoeakgaa", sum := "a21144377d8b4ad3fa5923b51cee54a05ba8830eed42a48e5f8ab8b237ef0b1d", func := "loop.example/g01123/laws.FnExactLeastOfOrbit", spec := "fnExactLeastOfOrbit", unfollowed := true, recurses := true, apart := false, narrowed := true }
def FnExactLeastOfOrbitUptoSaid : Prop := fnExactLeastOfOrbitUptoRow.holds Try.pinned (OpenSpec.upto fnExactLeastOfOrbitSpec)

/-- 'laws.FnExactCountOrbits', WHERE WHAT IT READS IS OF BULK AT MOST 1048576: true; the input reads as it did. -/
def fnExactCountOrbitsUptoRow : OpenClaim := { program := "ythlgclfhoeakgaa", sum := "a21144377d8b4ad3fa5923b51cee54a05ba8830eed42a48e5f8ab8b237ef0b1d", func := "loop.example/g01123/laws.FnExactCountOrbits", spec := "fnExactCountOrbits", inPlace := ["internal/abi.NoEscape", "internal/bytealg.MakeNoZero"], unfollowed := true, recurses := true, apart := false, narrowed := true }
def FnExactCountOrbitsUptoSaid : Prop := fnExactCountOrbitsUptoRow.holds Try.pinned (OpenSpec.upto fnExactCountOrbitsSpec)

/-- 'laws.FnExactCountFixed', WHERE WHAT IT READS IS OF BULK AT MOST 1048576: true; the input reads as it did. -/
def fnExactCountFixedUptoRow : OpenClaim := { program := "ythlgclfhoeakgaa", sum := "a21144377d8b4ad3fa5923b51cee54a05ba8830eed42a48e5f8ab8b237ef0b1d", func := "loop.example/g01123/laws.FnExactCountFixed", spec := "fnExactCountFixed", inPlace := ["internal/abi.NoEscape", "internal/bytealg.MakeNoZero"], unfollowed := true, recurses := true, apart := false, narrowed := true }
def FnExactCountFixedUptoSaid : Prop := fnExactCountFixedUptoRow.holds Try.pinned (OpenSpec.upto fnExactCountFixedSpec)

/-- 'laws.FnExactOrbitLengths', WHERE WHAT IT READS IS OF BULK AT MOST 1048576: true; the input reads as it did. -/
def fnExactOrbitLengthsUptoRow : OpenClaim := { program := "ythlgclfhoeakgaa", sum := "a21144377d8b4ad3fa5923b51cee54a05ba8830eed42a48e5f8ab8b237ef0b1d", func := "loop.example/g01123/laws.FnExactOrbitLengths", spec := "fnExactOrbitLengths", inPlace := ["internal/abi.NoEscape", "internal/bytealg.MakeNoZero"], unfollowed := true, recurses := true, apart := false, narrowed := true }
def FnExactOrbitLengthsUptoSaid : Prop := fnExactOrbitLengthsUptoRow.holds Try.pinned (OpenSpec.upto fnExactOrbitLengthsSpec)

end Rows
end Go.Proofs.Ythlgclfhoeakgaa
