/- Texts of one chain, in build order. -/
import Derived.Test.YthbkjaieenochaaYSignsWithPattern19
namespace Go.Proofs.Ythbkjaieenochaa
open Go.RowKit Go.Proofs.Ythbkjaieenochaa.P Go.Proofs.Ythbkjaieenochaa.L Go.Proofs.YthbkjaieenochaaW.PrintWords Go.Proofs.YthbkjaieenochaaW.PrintLast Go.Proofs.YthbkjaieenochaaW.PrintMore
set_option linter.unusedVariables false
set_option maxRecDepth 100000

def srX (n : Nat) : List (List Int) := (srE 100 n [] 0).getD []
def esX (n : Nat) : List (List (List Int)) := (esE 1000 n (srX n) [] (List.replicate n 0)).getD []
def EsOk (n : Nat) : Prop := srE 100 n [] 0 = some (srX n) ∧ (srX n).length ≤ 1000 ∧ esE 1000 n (srX n) [] (List.replicate n 0) = some (esX n)
theorem es_1 : EsOk 1 := by unfold EsOk; decide +kernel
theorem es_2 : EsOk 2 := by unfold EsOk; decide +kernel
theorem es_3 : EsOk 3 := by unfold EsOk; decide +kernel
theorem es_4 : EsOk 4 := by unfold EsOk; decide +kernel
theorem es_all {n : Nat} (h0 : 1 ≤ n) (h1 : n ≤ 4) : EsOk n := by
 have e : n = 1 ∨ n = 2 ∨ n = 3 ∨ n = 4 := by omega
 rcases e with rfl | rfl | rfl | rfl
 ·exact es_1
 ·exact es_2
 ·exact es_3
 ·exact es_4
theorem ta_1 : taE 1000 [] [] 1 = some (esX 1) := by decide +kernel
theorem ta_2 : taE 1000 [] [] 2 = some (esX 2) := by decide +kernel
theorem ta_3 : taE 1000 [] [] 3 = some (esX 3) := by decide +kernel
theorem ta_4 : taE 1000 [] [] 4 = some (esX 4) := by decide +kernel
theorem ta_5 : taE 1000 [] [] 5 = some (esX 5) := by decide +kernel
end Go.Proofs.Ythbkjaieenochaa
