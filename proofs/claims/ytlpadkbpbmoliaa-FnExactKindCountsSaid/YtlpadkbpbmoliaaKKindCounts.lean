/- The program's KindCounts answers as the reference's KindCounts, for every table; the table stays as it was, and what comes back is the call's own (the walk of the law FnExactKindCounts; no condition). -/
import Derived.Test.YtlpadkbpbmoliaaQKindCounts
import Derived.Test.YtlpadkbpbmoliaaHy
import Derived.Test.YtlpadkbpbmoliaaPx24
import Derived.Test.YtlpadkbpbmoliaaPx25
namespace Go.Proofs.Ytlpadkbpbmoliaa.Law
open Go.RowKit Go.Proofs.Ytlpadkbpbmoliaa Go.Proofs.Ytlpadkbpbmoliaa.P Go.Proofs.Ytlpadkbpbmoliaa.L Go.Proofs.YtlpadkbpbmoliaaW.PrintWords Go.Proofs.YtlpadkbpbmoliaaW.PrintLast Go.Proofs.YtlpadkbpbmoliaaW.PrintMore

theorem bothKindCounts (l : List (List Int)) (hf : fewRows l) : ∃ (r : List Int) (b : Bool), r.length ≤ 1048576 ∧ Ev (fun k => spec_KindCounts.f k l) (r, b) ∧ impl_KindCounts.f l = some (r, b) := by
  unfold spec_KindCounts.f impl_KindCounts.f
  cases hs : isSign l with
  | false =>
    have e1 : impl_IsSignMatrix.f l = some false := by unfold impl_IsSignMatrix.f; rw [hs]
    exact ⟨[], false, by simp, Ev.bind (hs ▸ sgGood_ev l hf) (Ev.ite_neg (by simp) (Ev.now _)), by rw [e1]; rfl⟩
  | true =>
    have e1 : impl_IsSignMatrix.f l = some true := by unfold impl_IsSignMatrix.f; rw [hs]
    have e2 : impl_kindCounts.f l = some (countsM l) := by unfold impl_kindCounts.f; rw [if_pos hs]
    have e3 : spec_weCounts.f l = some (countsM l) := by unfold spec_weCounts.f; rw [if_pos hs]
    refine ⟨countsM l, true, by rw [countsM_length]; omega, Ev.bind (hs ▸ sgGood_ev l hf) (Ev.ite_pos rfl (Ev.some_bind e3 (Ev.now _))), ?_⟩
    rw [e1, e2]; rfl
theorem FnExactKindCounts (A : Option Addr) (cap : Nat) (l : List (List Int)) {W0 : World} (h : RowsIn W0 A l.length cap l) (W : World) (hW : W = W0) :
    Calls Try.prog 5 #[.slice A l.length cap] W fun e w' => e = .returned (.bool true) ∧ Below W.heap.size W w' := by
  subst hW
  refine lawKindCounts A cap l W h fun hf => ?_
  obtain ⟨r, b, hr, h1, h2⟩ := bothKindCounts l hf
  obtain ⟨k, hk⟩ := h1.rounds
  exact ⟨r, b, hr, fun W' A' c' g1 g2 => spec_KindCounts.calls k A' c' l _ _ W' g1 g2 hk, fun W' A' c' g1 g2 => impl_KindCounts.calls A' c' l _ _ W' g1 g2 h2⟩
end Go.Proofs.Ytlpadkbpbmoliaa.Law
