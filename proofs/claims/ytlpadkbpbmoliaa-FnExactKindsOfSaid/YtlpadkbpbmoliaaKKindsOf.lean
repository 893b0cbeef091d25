/- The program's KindsOf answers as the reference's KindsOf, for every table; the table stays as it was, and what comes back is the call's own (the walk of the law FnExactKindsOf; no condition). -/
import Derived.Test.YtlpadkbpbmoliaaQKindsOf
import Derived.Test.YtlpadkbpbmoliaaHC
import Derived.Test.YtlpadkbpbmoliaaLk
import Derived.Test.YtlpadkbpbmoliaaPx22
namespace Go.Proofs.Ytlpadkbpbmoliaa.Law
open Go.RowKit Go.Proofs.Ytlpadkbpbmoliaa Go.Proofs.Ytlpadkbpbmoliaa.P Go.Proofs.Ytlpadkbpbmoliaa.L Go.Proofs.YtlpadkbpbmoliaaW.PrintWords Go.Proofs.YtlpadkbpbmoliaaW.PrintLast Go.Proofs.YtlpadkbpbmoliaaW.PrintMore

theorem spec_KindsOf_ev (l : List (List Int)) (hf : fewRows l) : Ev (fun k => spec_KindsOf.f k l) (changedT kindsM l, isSign l) := by
  unfold spec_KindsOf.f changedT
  cases hs : isSign l with
  | false => exact Ev.bind (hs ▸ sgGood_ev l hf) (Ev.ite_neg (by simp) (Ev.now _))
  | true => exact Ev.bind (hs ▸ sgGood_ev l hf) (Ev.ite_pos rfl (Ev.bind (weKinds_ev l hs) (Ev.now _)))
theorem kindsT_few (l : List (List Int)) : fewRows (changedT kindsM l) := by
  unfold changedT
  split
  · rename_i hs
    have h2 := (isSign_facts hs).2.1
    refine ⟨by rw [kindsM, tableL_length]; omega, fun r hr => ?_⟩
    obtain ⟨i, _, rfl⟩ := List.mem_map.1 hr
    rw [rowL_length]; omega
  · exact ⟨by simp, fun r hr => by cases hr⟩
theorem FnExactKindsOf (A : Option Addr) (cap : Nat) (l : List (List Int)) {W0 : World} (h : RowsIn W0 A l.length cap l) (W : World) (hW : W = W0) :
    Calls Try.prog 4 #[.slice A l.length cap] W fun e w' => e = .returned (.bool true) ∧ Below W.heap.size W w' := by
  subst hW
  refine lawKindsOf A cap l W h fun hf => ?_
  obtain ⟨k, hk⟩ := (spec_KindsOf_ev l hf).rounds
  exact ⟨changedT kindsM l, isSign l, kindsT_few l, fun W' A' c' h1 h2 => spec_KindsOf.calls k A' c' l _ _ W' h1 h2 hk, fun W' A' c' h1 h2 => impl_KindsOf.callsG A' c' l W' h1 h2⟩
end Go.Proofs.Ytlpadkbpbmoliaa.Law
