/- The program's SpreadOfParts answers as the reference's SpreadOfParts, for every number; what comes back is the call's own (the walk of the law FnExactSpreadOfParts; no condition). -/
import Derived.Test.YtdcdkckpmkfjdaaYSpreadOfParts3
import Derived.Test.YtdcdkckpmkfjdaaWMore
namespace Go.Proofs.Ytdcdkckpmkfjdaa.Law
open Go.RowKit Go.Proofs.Ytdcdkckpmkfjdaa Go.Proofs.Ytdcdkckpmkfjdaa.P Go.Proofs.Ytdcdkckpmkfjdaa.L Go.Proofs.YtdcdkckpmkfjdaaW.PrintWords Go.Proofs.YtdcdkckpmkfjdaaW.PrintLast Go.Proofs.YtdcdkckpmkfjdaaW.PrintMore
set_option linter.unusedVariables false
set_option maxRecDepth 100000

def smallT (T : List (List Int)) : Bool := decide (T.length ≤ 1000) && T.all fun r => decide (r.length ≤ 1000)
theorem small_all : smallT (spA 1) = true ∧ smallT (spA 2) = true ∧ smallT (spA 3) = true ∧ smallT (spA 4) = true := by decide +kernel
theorem FnExactSpreadOfParts (n : Int) (_hx : (Lit.int .i64 n).wf = true) {W0 : World} (W : World) (_hW : W = W0) :
  Calls Try.prog 9 #[.int .i64 n] W fun e w' => e = .returned (.bool true) ∧ Below W.heap.size W w' := by
 refine lawSpreadOfParts n _ _ W ?_ (fun W' => (spec_SpreadOfParts_calls n W').mono fun _ _ h => RetC.of_R (by obtain ⟨v, h1, h2, h3⟩ := h; exact ⟨v, h1, Kd.S_R h2, h3⟩)) (fun W' => impl_SpreadOfParts_calls n W')
 cases hi : inB n 1 4 with
 | false => rw [spA_out hi]; exact ⟨by simp, fun r hr => by simp at hr⟩
 | true =>
  have h : smallT (spA n) = true := by
   rcases one_four hi with rfl | rfl | rfl | rfl
   ·exact small_all.1
   ·exact small_all.2.1
   ·exact small_all.2.2.1
   ·exact small_all.2.2.2
  rw [smallT, Bool.and_eq_true, decide_eq_true_eq] at h
  exact ⟨by omega, fun r hr => by have := of_decide_eq_true (List.all_eq_true.1 h.2 r hr); omega⟩
end Go.Proofs.Ytdcdkckpmkfjdaa.Law
