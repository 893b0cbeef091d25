/-
  DERIVED. GIVEN WITH THE SEED: THE CARDS: each row of YtojohgjjlljbiaaDoorRows.lean that lists a variable, with what it lists TIED to the program's text (the seventh form; the later family's looks); each row that meets fmt, with fmt's text TOLD by the authors' own Lean function (tested against real Go, not proved from fmt's source: count such statements apart). THE CARD IS WHAT COUNTS. Prove the row's statement (the work); the ties are given (YtojohgjjlljbiaaDoorTie.lean); close each card by the builder's one call (the guide's Derived/Test/ToyasCard.lean, 'card_holds'). Laid BY PROGRAM, IN A SANDBOX (cutbox-door.mjs). By AI agents, Wed Nov 11 2026. No macro, syntax, notation, axiom, sorry.
-/
import Derived.Test.YtojohgjjlljbiaaDoorRows
import GoSem.ClaimSeven
namespace Go.Proofs.YtojohgjjlljbiaaDoor
namespace Rows

/-- THE TIED CARD OF 'laws.FnExactParseDescending'. -/
def fnExactParseDescendingCard : Claim7 := { stood := { row := fnExactParseDescendingRow, standIns := [], harness := (true, "533135d00c921faa56a1c46aaa37c6bf59061cc29addae1f0837ecf0b37cea27"), looks := false }, kinds := [], alts := [], laidByText := true, laidKinds := [.data, .pinned], laidTests := true, laidLooks := .later }
def FnExactParseDescendingCardSaid : Prop := Claim7.holds Tryd.pinned (.plain (OpenSpec.ofChange fnExactParseDescendingSpec)) fnExactParseDescendingCard

/-- THE SECOND FORM's CARD OF 'laws.FnExactParseDescending'. -/
def fnExactParseDescendingUptoCard : Claim7 := { stood := { row := fnExactParseDescendingUptoRow, standIns := [], harness := (true, "533135d00c921faa56a1c46aaa37c6bf59061cc29addae1f0837ecf0b37cea27"), looks := false }, kinds := [], alts := [], laidByText := true, laidKinds := [.data, .pinned], laidTests := true, laidLooks := .later }
def FnExactParseDescendingUptoCardSaid : Prop := Claim7.holds Tryd.pinned (.plain (OpenSpec.upto fnExactParseDescendingSpec)) fnExactParseDescendingUptoCard
end Rows
end Go.Proofs.YtojohgjjlljbiaaDoor
