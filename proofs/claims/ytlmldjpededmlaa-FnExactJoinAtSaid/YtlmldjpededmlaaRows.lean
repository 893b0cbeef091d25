/-
  No cell of these rows narrows 'for every input' (looked for: loops, veiled, ifaces, maps, wideKeys, modest, calm, conditions, laid).
  DERIVED. THE GIVEN ROWS OF THIS SEAT. 6 by the template 'for every input the law returns true; each argument reads behind the call as it read before'; 0 by the template 'total and deterministic' (their statements: YtlmldjpededmlaaTotals.lean).
  GIVEN WITH THE SEED: the statements are not yours to turn. If you find one false, say at which input.
  Laid BY PROGRAM, IN A SANDBOX (cutbox-rows.mjs): the forced cells as the released guide's own fill.sh prints them over the translation dd5a00ec0cfdf857… (all of the seat's roots in one cut). By AI agents, Wed Nov 11 2026. No macro, syntax, notation, axiom, sorry.
-/
import Derived.Test.YtlmldjpededmlaaChecked
import GoSem.Claim
import GoSem.ClaimJoined
import GoSem.ClaimMapViews
import Derived.JoinedTies
import Derived.KernelRfl
namespace Go.Proofs.Ytlmldjpededmlaa
/- THE CELL 'sum', in the pinned program and in every row, IS THE sha256 OF THE DUMP (.gsa) THAT YtlmldjpededmlaaProg.lean LOADS. Nothing in Lean hashes anything: it is a label: what it is worth is what the hold of that sum in a sandbox is worth. -/
noncomputable def Try.pinned : Pinned := { name := "ytlmldjpededmlaa", sum := "dd5a00ec0cfdf857e38776f586bfed018079fe30949fd1179c3b21db82a4edaa", checked := Try.checked }
namespace Rows
def none {H : Type} : Left H := { results := [], args := [] }

/-- 'laws.FnExactCountByDeterminant': WHATEVER THE INPUT: true; the input reads as it did. -/
def fnExactCountByDeterminantSpec : ChangeSpec := { name := "fnExactCountByDeterminant", fn := fun _ => fun
  | [d] => { results := [.lit (.bool true)], args := [d] }
  | _ => none }
def fnExactCountByDeterminantRow : OpenClaim := { program := "ytlmldjpededmlaa", sum := "dd5a00ec0cfdf857e38776f586bfed018079fe30949fd1179c3b21db82a4edaa", func := "loop.example/g01123/laws.FnExactCountByDeterminant", spec := "fnExactCountByDeterminant", unfollowed := true, recurses := true, apart := false }
def FnExactCountByDeterminantSaid : Prop := fnExactCountByDeterminantRow.holds Try.pinned (OpenSpec.ofChange fnExactCountByDeterminantSpec)

/-- ITS FALSE NEIGHBOUR: 'it returns false'. Refute it at one input. -/
def fnExactCountByDeterminantWrong : ChangeSpec := { name := "fnExactCountByDeterminant", fn := fun _ => fun
  | [d] => { results := [.lit (.bool false)], args := [d] }
  | _ => none }
def FnExactCountByDeterminantWrongFalsely : Prop := fnExactCountByDeterminantRow.holds Try.pinned (OpenSpec.ofChange fnExactCountByDeterminantWrong)

/-- 'laws.FnExactNestOf': WHATEVER THE INPUT: true; the input reads as it did. -/
def fnExactNestOfSpec : ChangeSpec := { name := "fnExactNestOf", fn := fun _ => fun
  | [d] => { results := [.lit (.bool true)], args := [d] }
  | _ => none }
def fnExactNestOfRow : OpenClaim := { program := "ytlmldjpededmlaa", sum := "dd5a00ec0cfdf857e38776f586bfed018079fe30949fd1179c3b21db82a4edaa", func := "loop.example/g01123/laws.FnExactNestOf", spec := "fnExactNestOf", unfollowed := true, recurses := true, apart := false }
def FnExactNestOfSaid : Prop := fnExactNestOfRow.holds Try.pinned (OpenSpec.ofChange fnExactNestOfSpec)

/-- ITS FALSE NEIGHBOUR: 'it returns false'. Refute it at one input. -/
def fnExactNestOfWrong : ChangeSpec := { name := "fnExactNestOf", fn := fun _ => fun
  | [d] => { results := [.lit (.bool false)], args := [d] }
  | _ => none }
def FnExactNestOfWrongFalsely : Prop := fnExactNestOfRow.holds Try.pinned (OpenSpec.ofChange fnExactNestOfWrong)

/-- 'laws.FnExactSmallArcs': WHATEVER THE INPUT: true; the input reads as it did. -/
def fnExactSmallArcsSpec : ChangeSpec := { name := "fnExactSmallArcs", fn := fun _ => fun
  | [d] => { results := [.lit (.bool true)], args := [d] }
  | _ => none }
def fnExactSmallArcsRow : OpenClaim := { program := "ytlmldjpededmlaa", sum := "dd5a00ec0cfdf857e38776f586bfed018079fe30949fd1179c3b21db82a4edaa", func := "loop.example/g01123/laws.FnExactSmallArcs", spec := "fnExactSmallArcs", unfollowed := true, recurses := true, apart := false }
def FnExactSmallArcsSaid : Prop := fnExactSmallArcsRow.holds Try.pinned (OpenSpec.ofChange fnExactSmallArcsSpec)

/-- ITS FALSE NEIGHBOUR: 'it returns false'. Refute it at one input. -/
def fnExactSmallArcsWrong : ChangeSpec := { name := "fnExactSmallArcs", fn := fun _ => fun
  | [d] => { results := [.lit (.bool false)], args := [d] }
  | _ => none }
def FnExactSmallArcsWrongFalsely : Prop := fnExactSmallArcsRow.holds Try.pinned (OpenSpec.ofChange fnExactSmallArcsWrong)

/-- 'laws.FnExactFreeSum': WHATEVER THE INPUT: true; the input reads as it did. -/
def fnExactFreeSumSpec : ChangeSpec := { name := "fnExactFreeSum", fn := fun _ => fun
  | [d1, d2, d3] => { results := [.lit (.bool true)], args := [d1, d2, d3] }
  | _ => none }
def fnExactFreeSumRow : OpenClaim := { program := "ytlmldjpededmlaa", sum := "dd5a00ec0cfdf857e38776f586bfed018079fe30949fd1179c3b21db82a4edaa", func := "loop.example/g01123/laws.FnExactFreeSum", spec := "fnExactFreeSum", unfollowed := true, recurses := true, apart := false }
def FnExactFreeSumSaid : Prop := fnExactFreeSumRow.holds Try.pinned (OpenSpec.ofChange fnExactFreeSumSpec)

/-- ITS FALSE NEIGHBOUR: 'it returns false'. Refute it at one input. -/
def fnExactFreeSumWrong : ChangeSpec := { name := "fnExactFreeSum", fn := fun _ => fun
  | [d1, d2, d3] => { results := [.lit (.bool false)], args := [d1, d2, d3] }
  | _ => none }
def FnExactFreeSumWrongFalsely : Prop := fnExactFreeSumRow.holds Try.pinned (OpenSpec.ofChange fnExactFreeSumWrong)

/-- 'laws.FnExactPatternPeriod': WHATEVER THE INPUT: true; the input reads as it did. -/
def fnExactPatternPeriodSpec : ChangeSpec := { name := "fnExactPatternPeriod", fn := fun _ => fun
  | [d] => { results := [.lit (.bool true)], args := [d] }
  | _ => none }
def fnExactPatternPeriodRow : OpenClaim := { program := "ytlmldjpededmlaa", sum := "dd5a00ec0cfdf857e38776f586bfed018079fe30949fd1179c3b21db82a4edaa", func := "loop.example/g01123/laws.FnExactPatternPeriod", spec := "fnExactPatternPeriod", unfollowed := true, recurses := true, apart := false }
def FnExactPatternPeriodSaid : Prop := fnExactPatternPeriodRow.holds Try.pinned (OpenSpec.ofChange fnExactPatternPeriodSpec)

/-- ITS FALSE NEIGHBOUR: 'it returns false'. Refute it at one input. -/
def fnExactPatternPeriodWrong : ChangeSpec := { name := "fnExactPatternPeriod", fn := fun _ => fun
  | [d] => { results := [.lit (.bool false)], args := [d] }
  | _ => none }
def FnExactPatternPeriodWrongFalsely : Prop := fnExactPatternPeriodRow.holds Try.pinned (OpenSpec.ofChange fnExactPatternPeriodWrong)

/-- 'laws.FnExactJoinAt': WHATEVER THE INPUT: true; the input reads as it did. -/
def fnExactJoinAtSpec : ChangeSpec := { name := "fnExactJoinAt", fn := fun _ => fun
  | [d1, d2] => { results := [.lit (.bool true)], args := [d1, d2] }
  | _ => none }
def fnExactJoinAtRow : OpenClaim := { program := "ytlmldjpededmlaa", sum := "dd5a00ec0cfdf857e38776f586bfed018079fe30949fd1179c3b21db82a4edaa", func := "loop.example/g01123/laws.FnExactJoinAt", spec := "fnExactJoinAt", unfollowed := true, recurses := true, apart := false }
def FnExactJoinAtSaid : Prop := fnExactJoinAtRow.holds Try.pinned (OpenSpec.ofChange fnExactJoinAtSpec)

/-- ITS FALSE NEIGHBOUR: 'it returns false'. Refute it at one input. -/
def fnExactJoinAtWrong : ChangeSpec := { name := "fnExactJoinAt", fn := fun _ => fun
  | [d1, d2] => { results := [.lit (.bool false)], args := [d1, d2] }
  | _ => none }
def FnExactJoinAtWrongFalsely : Prop := fnExactJoinAtRow.holds Try.pinned (OpenSpec.ofChange fnExactJoinAtWrong)

/- THE SECOND FORM. 'bulk': how many values and letters a reading holds, each counted each time it is reached (what is shared counts as often as it is met; a slice's spare places count too). A statement '..UptoSaid' is the law's where the arguments, and the package variables that the reading takes, are together of bulk at most 1048576: NARROWER than '..Said'. Prove '..Said' where nothing that the law and all that it calls make is longer than what came in: it says more and counts as full. Else prove '..UptoSaid'. A law counts once. -/
mutual
def uptoBulk {H : Type} : DataW H → Nat
  | .lit (.string bytes) => bytes.length + 1
  | .lit _ => 1
  | .nil => 1
  | .ptr d => uptoBulk d + 1
  | .slice elems spare => uptoBulkAll elems + uptoBulkAll spare + 1
  | .agg parts => uptoBulkAll parts + 1
  | .iface _ d => uptoBulk d + 1
  | .map entries => uptoBulkEntries entries + 1
  | .held _ => 1
def uptoBulkAll {H : Type} : List (DataW H) → Nat
  | [] => 0
  | d :: r => uptoBulk d + uptoBulkAll r
def uptoBulkEntries {H : Type} : List (Lit × DataW H) → Nat
  | [] => 0
  | x :: r => uptoBulkEntry x + uptoBulkEntries r
def uptoBulkEntry {H : Type} : Lit × DataW H → Nat
  | (.string bytes, d) => bytes.length + uptoBulk d + 1
  | (_, d) => uptoBulk d + 1
 end
def uptoSmall : (H : Type) → List (DataW H) → Bool := fun _ ds => decide (uptoBulkAll ds ≤ 1048576)
def OpenSpec.upto (s : _root_.Go.ChangeSpec) : _root_.Go.OpenSpec := { _root_.Go.OpenSpec.ofChange s with cond := some uptoSmall }

/-- 'laws.FnExactCountByDeterminant', WHERE WHAT IT READS IS OF BULK AT MOST 1048576: true; the input reads as it did. -/
def fnExactCountByDeterminantUptoRow : OpenClaim := { program := "ytlmldjpededmlaa", sum := "dd5a00ec0cfdf857e38776f586bfed018079fe30949fd1179c3b21db82a4edaa", func := "loop.example/g01123/laws.FnExactCountByDeterminant", spec := "fnExactCountByDeterminant", unfollowed := true, recurses := true, apart := false, narrowed := true }
def FnExactCountByDeterminantUptoSaid : Prop := fnExactCountByDeterminantUptoRow.holds Try.pinned (OpenSpec.upto fnExactCountByDeterminantSpec)

/-- 'laws.FnExactNestOf', WHERE WHAT IT READS IS OF BULK AT MOST 1048576: true; the input reads as it did. -/
def fnExactNestOfUptoRow : OpenClaim := { program := "ytlmldjpededmlaa", sum := "dd5a00ec0cfdf857e38776f586bfed018079fe30949fd1179c3b21db82a4edaa", func := "loop.example/g01123/laws.FnExactNestOf", spec := "fnExactNestOf", unfollowed := true, recurses := true, apart := false, narrowed := true }
def FnExactNestOfUptoSaid : Prop := fnExactNestOfUptoRow.holds Try.pinned (OpenSpec.upto fnExactNestOfSpec)

/-- 'laws.FnExactSmallArcs', WHERE WHAT IT READS IS OF BULK AT MOST 1048576: true; the input reads as it did. -/
def fnExactSmallArcsUptoRow : OpenClaim := { program := "ytlmldjpededmlaa", sum := "dd5a00ec0cfdf857e38776f586bfed018079fe30949fd1179c3b21db82a4edaa", func := "loop.example/g01123/laws.FnExactSmallArcs", spec := "fnExactSmallArcs", unfollowed := true, recurses := true, apart := false, narrowed := true }
def FnExactSmallArcsUptoSaid : Prop := fnExactSmallArcsUptoRow.holds Try.pinned (OpenSpec.upto fnExactSmallArcsSpec)

/-- 'laws.FnExactFreeSum', WHERE WHAT IT READS IS OF BULK AT MOST 1048576: true; the input reads as it did. -/
def fnExactFreeSumUptoRow : OpenClaim := { program := "ytlmldjpededmlaa", sum := "dd5a00ec0cfdf857e38776f586bfed018079fe30949fd1179c3b21db82a4edaa", func := "loop.example/g01123/laws.FnExactFreeSum", spec := "fnExactFreeSum", unfollowed := true, recurses := true, apart := false, narrowed := true }
def FnExactFreeSumUptoSaid : Prop := fnExactFreeSumUptoRow.holds Try.pinned (OpenSpec.upto fnExactFreeSumSpec)

/-- 'laws.FnExactPatternPeriod', WHERE WHAT IT READS IS OF BULK AT MOST 1048576: true; the input reads as it did. -/
def fnExactPatternPeriodUptoRow : OpenClaim := { program := "ytlmldjpededmlaa", sum := "dd5a00ec0cfdf857e38776f586bfed018079fe30949fd1179c3b21db82a4edaa", func := "loop.example/g01123/laws.FnExactPatternPeriod", spec := "fnExactPatternPeriod", unfollowed := true, recurses := true, apart := false, narrowed := true }
def FnExactPatternPeriodUptoSaid : Prop := fnExactPatternPeriodUptoRow.holds Try.pinned (OpenSpec.upto fnExactPatternPeriodSpec)

/-- 'laws.FnExactJoinAt', WHERE WHAT IT READS IS OF BULK AT MOST 1048576: true; the input reads as it did. -/
def fnExactJoinAtUptoRow : OpenClaim := { program := "ytlmldjpededmlaa", sum := "dd5a00ec0cfdf857e38776f586bfed018079fe30949fd1179c3b21db82a4edaa", func := "loop.example/g01123/laws.FnExactJoinAt", spec := "fnExactJoinAt", unfollowed := true, recurses := true, apart := false, narrowed := true }
def FnExactJoinAtUptoSaid : Prop := fnExactJoinAtUptoRow.holds Try.pinned (OpenSpec.upto fnExactJoinAtSpec)

end Rows
end Go.Proofs.Ytlmldjpededmlaa
