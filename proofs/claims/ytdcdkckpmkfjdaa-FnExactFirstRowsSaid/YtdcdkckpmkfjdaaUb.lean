/- The rows of descending plane partitions: both sides make the same ones. -/
import Derived.Test.YtdcdkckpmkfjdaaLA
import Derived.Test.YtdcdkckpmkfjdaaUa
import Derived.Test.YtdcdkckpmkfjdaaPx92
namespace Go.Proofs.Ytdcdkckpmkfjdaa.L
open Go.RowKit Go.Proofs.Ytdcdkckpmkfjdaa Go.Proofs.Ytdcdkckpmkfjdaa.P Go.Proofs.YtdcdkckpmkfjdaaW.PrintWords Go.Proofs.YtdcdkckpmkfjdaaW.PrintLast Go.Proofs.YtdcdkckpmkfjdaaW.PrintMore
set_option linter.unusedVariables false
set_option maxRecDepth 100000

theorem in_eq (a b c : Int) : spec_l1In.f a b c = some (inB a b c) := by
  unfold spec_l1In.f inB
  by_cases h : a ≥ b
  · rw [if_pos h, decide_eq_true (show b ≤ a from h), Bool.true_and]
  · rw [if_neg h, decide_eq_false (show ¬ b ≤ a from h), Bool.false_and]
theorem inB_true {n lo hi : Int} (h : inB n lo hi = true) : lo ≤ n ∧ n ≤ hi := (inB_iff n lo hi).1 h
/-- All rows that can be the first one for n. -/
def frX (n : Int) : List (List Int) := (frE 100 n []).getD []
theorem fr_1 : frE 100 1 [] = some (frX 1) ∧ spec_dpNext.f 300 [] 1 = some (frX 1) ∧ (frX 1).length ≤ 2000 := by decide +kernel
theorem fr_2 : frE 100 2 [] = some (frX 2) ∧ spec_dpNext.f 300 [] 2 = some (frX 2) ∧ (frX 2).length ≤ 2000 := by decide +kernel
theorem fr_3 : frE 100 3 [] = some (frX 3) ∧ spec_dpNext.f 300 [] 3 = some (frX 3) ∧ (frX 3).length ≤ 2000 := by decide +kernel
theorem fr_4 : frE 100 4 [] = some (frX 4) ∧ spec_dpNext.f 300 [] 4 = some (frX 4) ∧ (frX 4).length ≤ 2000 := by decide +kernel
theorem fr_5 : frE 100 5 [] = some (frX 5) ∧ spec_dpNext.f 300 [] 5 = some (frX 5) ∧ (frX 5).length ≤ 2000 := by decide +kernel
theorem fr_6 : frE 100 6 [] = some (frX 6) ∧ spec_dpNext.f 300 [] 6 = some (frX 6) ∧ (frX 6).length ≤ 2000 := by decide +kernel
theorem fr_small : ((frX 1).all fun r => r.length ≤ 100) = true ∧ ((frX 2).all fun r => r.length ≤ 100) = true ∧ ((frX 3).all fun r => r.length ≤ 100) = true ∧ ((frX 4).all fun r => r.length ≤ 100) = true ∧ ((frX 5).all fun r => r.length ≤ 100) = true ∧ ((frX 6).all fun r => r.length ≤ 100) = true := by decide +kernel
theorem fr_all {n : Int} (h0 : 1 ≤ n) (h1 : n ≤ 6) : frE 100 n [] = some (frX n) ∧ spec_dpNext.f 300 [] n = some (frX n) ∧ (frX n).length ≤ 2000 ∧ ∀ r ∈ frX n, r.length ≤ 100 := by
  obtain ⟨s1, s2, s3, s4, s5, s6⟩ := fr_small
  have e : n = 1 ∨ n = 2 ∨ n = 3 ∨ n = 4 ∨ n = 5 ∨ n = 6 := by omega
  rcases e with rfl | rfl | rfl | rfl | rfl | rfl
  · exact ⟨fr_1.1, fr_1.2.1, fr_1.2.2, fun r hr => of_decide_eq_true (List.all_eq_true.1 s1 r hr)⟩
  · exact ⟨fr_2.1, fr_2.2.1, fr_2.2.2, fun r hr => of_decide_eq_true (List.all_eq_true.1 s2 r hr)⟩
  · exact ⟨fr_3.1, fr_3.2.1, fr_3.2.2, fun r hr => of_decide_eq_true (List.all_eq_true.1 s3 r hr)⟩
  · exact ⟨fr_4.1, fr_4.2.1, fr_4.2.2, fun r hr => of_decide_eq_true (List.all_eq_true.1 s4 r hr)⟩
  · exact ⟨fr_5.1, fr_5.2.1, fr_5.2.2, fun r hr => of_decide_eq_true (List.all_eq_true.1 s5 r hr)⟩
  · exact ⟨fr_6.1, fr_6.2.1, fr_6.2.2, fun r hr => of_decide_eq_true (List.all_eq_true.1 s6 r hr)⟩
theorem impl_firstRows_calls (n : Int) (h0 : 1 ≤ n) (h1 : n ≤ 6) (w : World) : Calls Try.prog 94 #[.int .i64 n] w (RetM2 w (frX n)) :=
  impl_firstRows.callsG n (by omega) 100 (frX n) w (fr_all h0 h1).1 (by omega) (by have := (fr_all h0 h1).2.2.1; omega)
end Go.Proofs.Ytdcdkckpmkfjdaa.L
