/- Texts of one chain, in build order. -/
import Derived.Test.YtbihfdadnkmckaaYLoopsOf1
namespace Go.Proofs.Ytbihfdadnkmckaa.LN
set_option linter.unusedVariables false
set_option linter.unusedSimpArgs false

/-- Is the edge of a point at a side drawn? a: the edges across, d: the edges down. -/
def drw (a d : Int → Int → Int) (i j s : Int) : Bool := if s = 0 then d i j == 1 else if s = 1 then a i (j + 1) == 1 else if s = 2 then d (i + 1) j == 1 else a i j == 1
/-- The side at which a line that comes in at s goes out. -/
def exq (a d : Int → Int → Int) (i j s : Int) : Int := if s ≠ 0 ∧ drw a d i j 0 = true then 0 else if s ≠ 1 ∧ drw a d i j 1 = true then 1 else if s ≠ 2 ∧ drw a d i j 2 = true then 2 else 3
def mi (i e : Int) : Int := if e = 0 then i - 1 else if e = 2 then i + 1 else i
def mj (j e : Int) : Int := if e = 1 then j + 1 else if e = 3 then j - 1 else j
def op (s : Int) : Int := (s + 2) % 4
abbrev St := Int × Int × Int
def step (a d : Int → Int → Int) (x : St) : St := (mi x.1 (exq a d x.1 x.2.1 x.2.2), mj x.2.1 (exq a d x.1 x.2.1 x.2.2), op (exq a d x.1 x.2.1 x.2.2))
end Go.Proofs.Ytbihfdadnkmckaa.LN
