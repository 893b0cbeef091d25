/- The program's FromKinds answers as the reference's FromKinds, for every table; the table stays as it was, and what comes back is the call's own (the walk of the law FnExactFromKinds; no condition). -/
import Derived.Test.YtlpadkbpbmoliaaQFromKinds
import Derived.Test.YtlpadkbpbmoliaaLf
namespace Go.Proofs.Ytlpadkbpbmoliaa.Law
open Go.RowKit Go.Proofs.Ytlpadkbpbmoliaa Go.Proofs.Ytlpadkbpbmoliaa.P Go.Proofs.Ytlpadkbpbmoliaa.L Go.Proofs.YtlpadkbpbmoliaaW.PrintWords Go.Proofs.YtlpadkbpbmoliaaW.PrintLast Go.Proofs.YtlpadkbpbmoliaaW.PrintMore

theorem fkR_few (l : List (List Int)) : fewRows (fkR l) := by
  unfold fkR
  split
  · rename_i h
    refine fkT_few l ?_
    have : inB (l.length : Int) 1 6 = true := by
      unfold fkOk at h
      rw [Bool.and_eq_true] at h
      exact h.1
    have := (inB_iff _ _ _).1 this
    omega
  · exact ⟨by simp, fun r hr => by cases hr⟩
theorem FnExactFromKinds (A : Option Addr) (cap : Nat) (l : List (List Int)) {W0 : World} (h : RowsIn W0 A l.length cap l) (W : World) (hW : W = W0) :
    Calls Try.prog 11 #[.slice A l.length cap] W fun e w' => e = .returned (.bool true) ∧ Below W.heap.size W w' := by
  subst hW
  refine lawFromKinds A cap l W h fun hf => ?_
  obtain ⟨k, hk⟩ := (FromKinds_ev l hf).rounds
  exact ⟨fkR l, fkOk l, fkR_few l, fun W' A' c' h1 h2 => spec_FromKinds.calls k A' c' l _ _ W' h1 h2 hk, fun W' A' c' h1 h2 => impl_FromKinds.callsG A' c' l W' h1 h2⟩
end Go.Proofs.Ytlpadkbpbmoliaa.Law
