/- Texts of one chain, in build order. -/
import Derived.Test.YtkiloimggmpggaaYLambdaSum20
namespace Go.Proofs.Ytkiloimggmpggaa
open Go.RowKit Go.Proofs.YtkiloimggmpggaaW.PrintWords Go.Proofs.YtkiloimggmpggaaW.PrintLast Go.Proofs.YtkiloimggmpggaaW.PrintMore
set_option linter.unusedVariables false
set_option linter.unusedSimpArgs false

/-- What is left behind a call with a function value: the value has been called m times. -/
def EsRet (St : Nat → World → (Nat → Prop) → Prop) (m : Nat) (w : World) (ok : Nat → Prop) (e : Ending) (w' : World) : Prop :=
 e = .returned (.tuple #[]) ∧ ∃ ok', St m w' ok' ∧ Touch w w' ok ∧ ∀ k, ok' k → ok k ∨ w.heap.size ≤ k
/-- eachSigns calls a function value on each of the tables All. -/
def EachSigns (n : Nat) (All : List (List (List Int))) : Prop :=
 ∀ (g : Nat) (lb : Array Value) (w : World) (St : Nat → World → (Nat → Prop) → Prop) (_ : Stays St)
  (_ : ∀ args w, (callFunc g args).run Try.prog w = .ok (.enter g args) w)
  (_ : ∀ (j : Nat) (T : List (List Int)) (A : Option Addr) (c : Nat) (W : World) (ok : Nat → Prop), All[j]? = some T → St j W ok → Kd.F (Kd.slice 3 (Kd.int .i64)) W (fun k => ¬ ok k ∧ k < W.heap.size) A T.length T → T.length ≤ c → Calls Try.prog g (#[.slice A T.length c] ++ lb) W (Stepped St (j + 1) W ok))
  (ok : Nat → Prop) (_ : St 0 w ok), Calls Try.prog 32 #[.int .i64 n, .func (.func g) #[] lb] w (EsRet St All.length w ok)
end Go.Proofs.Ytkiloimggmpggaa
