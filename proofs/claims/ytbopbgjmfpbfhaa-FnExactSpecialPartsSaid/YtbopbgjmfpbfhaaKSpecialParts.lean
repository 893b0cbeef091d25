/- The program's SpecialParts answers as the reference's SpecialParts, for every table; the table stays as it was (the walk of the law FnExactSpecialParts; no condition). -/
import Derived.Test.YtbopbgjmfpbfhaaLe
import Derived.Test.YtbopbgjmfpbfhaaPx7
namespace Go.Proofs.Ytbopbgjmfpbfhaa.Law
open Go.RowKit Go.Proofs.Ytbopbgjmfpbfhaa Go.Proofs.Ytbopbgjmfpbfhaa.P Go.Proofs.Ytbopbgjmfpbfhaa.L Go.Proofs.YtbopbgjmfpbfhaaW.PrintWords Go.Proofs.YtbopbgjmfpbfhaaW.PrintLast Go.Proofs.YtbopbgjmfpbfhaaW.PrintMore

theorem bothSpecialParts (l : List (List Int)) (hl : rowsOk l) : ∃ (b : Int) (c : Bool), Ev (fun k => spec_SpecialParts.f k l) (b, c) ∧ impl_SpecialParts.f l = some (b, c) := by
  unfold spec_SpecialParts.f impl_SpecialParts.f
  rw [if_pos ((rowsOkB_iff l).2 hl)]
  cases h : isDesc 6 l with
  | false => exact ⟨0, false, Ev.bind (h ▸ spec_isDesc_ev 6 l hl (by omega)) (Ev.ite_neg (by simp) (Ev.now _)), by unfold countF; rw [h]; rfl⟩
  | true => exact ⟨cntAll (fun x i => decide (x ≤ i)) l l.length, true, Ev.bind (h ▸ spec_isDesc_ev 6 l hl (by omega)) (Ev.ite_pos rfl (Ev.bind (dpSpecial_ev l h) (Ev.now _))), by unfold countF; rw [h]; rfl⟩
theorem pureSpecialParts (l : List (List Int)) (t : Int) (ht : Ev (fun k => laws_szIntSS.f k l 1048576) t) (hd : t < 0 ∨ fewRows l) : ∃ k, laws_FnExactSpecialParts.f k l = some true := by
  refine Ev.rounds ?_
  unfold laws_FnExactSpecialParts.f
  refine Ev.bind ht ?_
  by_cases hn : t < 0
  · exact Ev.ite_pos hn (Ev.now _)
  · have hf := hd.resolve_left hn
    obtain ⟨b, c, h1, h2⟩ := bothSpecialParts l  hf.ok
    refine Ev.ite_neg hn (Ev.some_bind (toIntSS_eq l hf.ok) (Ev.bind h1 (Ev.some_bind (toIntSS_eq l hf.ok) (Ev.some_bind h2 (Ev.ite_pos rfl ?_)))))
    refine Ev.step (fun k => by rw [laws_FnExactSpecialParts.j0]) ?_
    exact Ev.ite_neg (by simp) (Ev.some_bind (toIntSS_eq l hf.ok) (Ev.bind (eqIntSS l hf.ok) (Ev.ite_pos rfl (Ev.now _))))
theorem FnExactSpecialParts (A : Option Addr) (cap : Nat) (l : List (List Int)) {W0 : World} (h : RowsIn W0 A l.length cap l) (W : World) (hW : W = W0) :
    Calls Try.prog 7 #[.slice A l.length cap] W fun e w' => e = .returned (.bool true) ∧ Below W.heap.size W w' := by
  subst hW
  obtain ⟨t, ht, hd⟩ := szIntSS_in h
  obtain ⟨k, hk⟩ := pureSpecialParts l  t ht hd
  exact laws_FnExactSpecialParts.calls k A cap l  true W h.read h.le hk
end Go.Proofs.Ytbopbgjmfpbfhaa.Law
