/- Texts of one chain, in build order. -/
import Derived.Test.YtkiloimggmpggaaYLambdaSum22
namespace Go.Proofs.Ytkiloimggmpggaa
open Go.RowKit Go.Proofs.Ytkiloimggmpggaa.P Go.Proofs.Ytkiloimggmpggaa.L Go.Proofs.YtkiloimggmpggaaW.PrintWords Go.Proofs.YtkiloimggmpggaaW.PrintLast Go.Proofs.YtkiloimggmpggaaW.PrintMore
set_option linter.unusedVariables false
set_option maxRecDepth 100000

def srX (n : Nat) : List (List Int) := (srE 100 n [] 0).getD []
def esX (n : Nat) : List (List (List Int)) := (esE 1000 n (srX n) [] (List.replicate n 0)).getD []
def EsOk (n : Nat) : Prop := srE 100 n [] 0 = some (srX n) ∧ (srX n).length ≤ 1000 ∧ esE 1000 n (srX n) [] (List.replicate n 0) = some (esX n)
theorem es_1 : EsOk 1 := by unfold EsOk; decide +kernel
theorem es_2 : EsOk 2 := by unfold EsOk; decide +kernel
theorem es_3 : EsOk 3 := by unfold EsOk; decide +kernel
theorem es_4 : EsOk 4 := by unfold EsOk; decide +kernel
theorem es_all {n : Nat} (h0 : 1 ≤ n) (h1 : n ≤ 4) : EsOk n := by
 have e : n = 1 ∨ n = 2 ∨ n = 3 ∨ n = 4 := by omega
 rcases e with rfl | rfl | rfl | rfl
 ·exact es_1
 ·exact es_2
 ·exact es_3
 ·exact es_4
theorem eachSigns_of {n : Nat} (hn : n ≤ 100) (h : EsOk n) : EachSigns n (esX n) := fun g lb w St hSt eg hf ok hst =>
 impl_eachSigns.callsG n hn (srX n) g lb w (fun w => impl_signRows.callsG n 100 (srX n) w h.1 (by omega) (by have := h.2.1; omega)) St hSt h.2.1 (esX n) eg hf 1000 h.2.2 (by omega) ok hst
theorem eachSigns_all {n : Nat} (h0 : 1 ≤ n) (h1 : n ≤ 4) : EachSigns n (esX n) := eachSigns_of (by omega) (es_all h0 h1)
end Go.Proofs.Ytkiloimggmpggaa
