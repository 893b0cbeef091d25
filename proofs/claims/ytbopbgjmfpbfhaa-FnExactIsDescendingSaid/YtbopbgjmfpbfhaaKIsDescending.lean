/- The program's IsDescending answers as the reference's IsDescending, for every table and every number; the table stays as it was (the walk of the law FnExactIsDescending; no condition). -/
import Derived.Test.YtbopbgjmfpbfhaaLd
import Derived.Test.YtbopbgjmfpbfhaaPx18
namespace Go.Proofs.Ytbopbgjmfpbfhaa.Law
open Go.RowKit Go.Proofs.Ytbopbgjmfpbfhaa Go.Proofs.Ytbopbgjmfpbfhaa.P Go.Proofs.Ytbopbgjmfpbfhaa.L Go.Proofs.YtbopbgjmfpbfhaaW.PrintWords Go.Proofs.YtbopbgjmfpbfhaaW.PrintLast Go.Proofs.YtbopbgjmfpbfhaaW.PrintMore

theorem isDescending_both (n : Int) (l : List (List Int)) (hl : rowsOk l) : ∃ b c : Bool, Ev (fun k => spec_IsDescending.f k l n) (b, c) ∧ Ev (fun k => impl_IsDescending.f k l n) (b, c) := by
  unfold spec_IsDescending.f impl_IsDescending.f
  rw [l1In_eq, show impl_isDescended.f n = some (inB n 1 6) from rfl]
  simp only [Option.bind_some]
  cases h : inB n 1 6 with
  | false => exact ⟨false, false, Ev.ite_neg (by simp) (Ev.now _), Ev.ite_neg (by simp) (Ev.now _)⟩
  | true =>
    have hn := (inB_iff _ _ _).1 h
    exact ⟨isDesc n l, true, Ev.ite_pos rfl (Ev.bind (spec_isDesc_ev n l hl (by omega)) (Ev.now _)), Ev.ite_pos rfl (Ev.bind (impl_isDesc_ev n l hl) (Ev.now _))⟩
theorem isDescending_pure (n : Int) (l : List (List Int)) (t : Int) (ht : Ev (fun k => laws_szIntSS.f k l 1048576) t) (hd : t < 0 ∨ fewRows l) : ∃ k, laws_FnExactIsDescending.f k l n = some true := by
  refine Ev.rounds ?_
  unfold laws_FnExactIsDescending.f
  refine Ev.bind ht ?_
  by_cases hn : t < 0
  · exact Ev.ite_pos hn (Ev.now _)
  · have hf := hd.resolve_left hn
    obtain ⟨b, c, h1, h2⟩ := isDescending_both n l hf.ok
    refine Ev.ite_neg hn (Ev.some_bind (toIntSS_eq l hf.ok) (Ev.bind h1 (Ev.some_bind (toIntSS_eq l hf.ok) (Ev.bind h2 (Ev.ite_neg (by simp) ?_)))))
    refine Ev.step (fun k => by rw [laws_FnExactIsDescending.j0]) ?_
    exact Ev.ite_neg (by simp) (Ev.some_bind (toIntSS_eq l hf.ok) (Ev.bind (eqIntSS l hf.ok) (Ev.ite_pos rfl (Ev.now _))))
theorem FnExactIsDescending (A : Option Addr) (cap : Nat) (l : List (List Int)) {W0 : World} (h : RowsIn W0 A l.length cap l) (a1 : Int) (_h1 : (Lit.int .i64 a1).wf = true) (W : World) (hW : W = W0) :
    Calls Try.prog 3 #[.slice A l.length cap, .int .i64 a1] W fun e w' => e = .returned (.bool true) ∧ Below W.heap.size W w' := by
  subst hW
  obtain ⟨t, ht, hd⟩ := szIntSS_in h
  obtain ⟨k, hk⟩ := isDescending_pure a1 l t ht hd
  exact laws_FnExactIsDescending.calls k A cap l a1 true W h.read h.le hk
end Go.Proofs.Ytbopbgjmfpbfhaa.Law
