/- The program's PartsEqual answers as the reference's PartsEqual, for every table and every number; the table stays as it was (the walk of the law FnExactPartsEqual; no condition). -/
import Derived.Test.YtbopbgjmfpbfhaaLe
import Derived.Test.YtbopbgjmfpbfhaaPx8
namespace Go.Proofs.Ytbopbgjmfpbfhaa.Law
open Go.RowKit Go.Proofs.Ytbopbgjmfpbfhaa Go.Proofs.Ytbopbgjmfpbfhaa.P Go.Proofs.Ytbopbgjmfpbfhaa.L Go.Proofs.YtbopbgjmfpbfhaaW.PrintWords Go.Proofs.YtbopbgjmfpbfhaaW.PrintLast Go.Proofs.YtbopbgjmfpbfhaaW.PrintMore

theorem bothPartsEqual (l : List (List Int)) (n : Int) (hl : rowsOk l) : ∃ (b : Int) (c : Bool), Ev (fun k => spec_PartsEqual.f k l n) (b, c) ∧ impl_PartsEqual.f l n = some (b, c) := by
  unfold spec_PartsEqual.f impl_PartsEqual.f
  rw [if_pos ((rowsOkB_iff l).2 hl)]
  rw [l1In_eq]
  simp only [Option.bind_some]
  cases h : isDesc 6 l with
  | false =>
    refine ⟨0, false, Ev.bind (h ▸ spec_isDesc_ev 6 l hl (by omega)) (Ev.ite_neg (by simp) (Ev.now _)), ?_⟩
    unfold countF
    rw [h]
    split <;> rfl
  | true =>
    cases h2 : inB n 2 6 with
    | false => exact ⟨0, false, Ev.bind (h ▸ spec_isDesc_ev 6 l hl (by omega)) (Ev.ite_pos rfl (Ev.ite_neg (by simp) (Ev.now _))), rfl⟩
    | true => exact ⟨cntAll (fun x _ => x == n) l l.length, true, Ev.bind (h ▸ spec_isDesc_ev 6 l hl (by omega)) (Ev.ite_pos rfl (Ev.ite_pos rfl (Ev.bind (dpEqual_ev l n h) (Ev.now _)))), by unfold countF; rw [h]; rfl⟩
theorem purePartsEqual (l : List (List Int)) (n : Int) (t : Int) (ht : Ev (fun k => laws_szIntSS.f k l 1048576) t) (hd : t < 0 ∨ fewRows l) : ∃ k, laws_FnExactPartsEqual.f k l n = some true := by
  refine Ev.rounds ?_
  unfold laws_FnExactPartsEqual.f
  refine Ev.bind ht ?_
  by_cases hn : t < 0
  · exact Ev.ite_pos hn (Ev.now _)
  · have hf := hd.resolve_left hn
    obtain ⟨b, c, h1, h2⟩ := bothPartsEqual l n hf.ok
    refine Ev.ite_neg hn (Ev.some_bind (toIntSS_eq l hf.ok) (Ev.bind h1 (Ev.some_bind (toIntSS_eq l hf.ok) (Ev.some_bind h2 (Ev.ite_pos rfl ?_)))))
    refine Ev.step (fun k => by rw [laws_FnExactPartsEqual.j0]) ?_
    exact Ev.ite_neg (by simp) (Ev.some_bind (toIntSS_eq l hf.ok) (Ev.bind (eqIntSS l hf.ok) (Ev.ite_pos rfl (Ev.now _))))
theorem FnExactPartsEqual (A : Option Addr) (cap : Nat) (l : List (List Int)) {W0 : World} (h : RowsIn W0 A l.length cap l) (n : Int) (_hn : (Lit.int .i64 n).wf = true) (W : World) (hW : W = W0) :
    Calls Try.prog 8 #[.slice A l.length cap, .int .i64 n] W fun e w' => e = .returned (.bool true) ∧ Below W.heap.size W w' := by
  subst hW
  obtain ⟨t, ht, hd⟩ := szIntSS_in h
  obtain ⟨k, hk⟩ := purePartsEqual l n t ht hd
  exact laws_FnExactPartsEqual.calls k A cap l n true W h.read h.le hk
end Go.Proofs.Ytbopbgjmfpbfhaa.Law
