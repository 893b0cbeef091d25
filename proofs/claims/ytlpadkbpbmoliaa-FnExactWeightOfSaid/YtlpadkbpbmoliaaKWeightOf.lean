/- The program's WeightOf answers as the reference's WeightOf, for every table and all numbers; the table stays as it was (the walk of the law FnExactWeightOf; no condition). -/
import Derived.Test.YtlpadkbpbmoliaaLw
import Derived.Test.YtlpadkbpbmoliaaHv
import Derived.Test.YtlpadkbpbmoliaaPx7
namespace Go.Proofs.Ytlpadkbpbmoliaa.Law
open Go.RowKit Go.Proofs.Ytlpadkbpbmoliaa Go.Proofs.Ytlpadkbpbmoliaa.P Go.Proofs.Ytlpadkbpbmoliaa.L Go.Proofs.YtlpadkbpbmoliaaW.PrintWords Go.Proofs.YtlpadkbpbmoliaaW.PrintLast Go.Proofs.YtlpadkbpbmoliaaW.PrintMore

theorem bothWeightOf (l : List (List Int)) (x y z : Int) (hf : fewRows l) : ∃ (b : Int) (c : Bool), Ev (fun k => spec_WeightOf.f k l x y z) (b, c) ∧ impl_WeightOf.f l x y z = some (b, c) := by
  unfold spec_WeightOf.f impl_WeightOf.f
  have hw := l1All_ev [x, y, z] 0 5 (by simp)
  cases hs : isSign l with
  | false => exact ⟨0, false, Ev.bind (hs ▸ sgGood_ev l hf) (Ev.ite_neg (by simp) (Ev.now _)), by unfold impl_IsSignMatrix.f; rw [hs]; rfl⟩
  | true =>
    have e1 : impl_IsSignMatrix.f l = some true := by unfold impl_IsSignMatrix.f; rw [hs]
    have e2 : impl_areBases.f [x, y, z] = some ([x, y, z].all fun x => inB x 0 5) := rfl
    have e3 : impl_weight.f l x y z = some (weightC (countsM l) x y z) := by unfold impl_weight.f; rw [if_pos hs]
    have e4 : spec_weWeight.f l x y z = some (weightC (countsM l) x y z) := by unfold spec_weWeight.f; rw [if_pos hs]
    rw [e1, e2, e3, e4]
    cases hb : [x, y, z].all fun x => inB x 0 5 with
    | false =>
      refine ⟨0, false, Ev.bind (hs ▸ sgGood_ev l hf) (Ev.ite_pos rfl (Ev.bind (a := false) ?_ (Ev.ite_neg (by simp) (Ev.now _)))), ?_⟩
      · unfold spec_weWeights.f
        exact Ev.bind (hb ▸ hw) (Ev.now _)
      · simp
    | true =>
      have e5 : Ev (fun k => spec_weWeights.f k [x, y, z]) true := by
        unfold spec_weWeights.f
        exact Ev.bind (hb ▸ hw) (Ev.now _)
      by_cases h4 : (l.length : Int) > 4
      · exact ⟨0, false, Ev.bind (hs ▸ sgGood_ev l hf) (Ev.ite_pos rfl (Ev.bind e5 (Ev.ite_pos rfl (Ev.ite_pos h4 (Ev.now _))))), by simp [h4]⟩
      · exact ⟨weightC (countsM l) x y z, true, Ev.bind (hs ▸ sgGood_ev l hf) (Ev.ite_pos rfl (Ev.bind e5 (Ev.ite_pos rfl (Ev.ite_neg h4 (Ev.now _))))), by simp [h4]⟩
theorem pureWeightOf (l : List (List Int)) (x y z : Int) (t : Int) (ht : Ev (fun k => laws_szIntSS.f k l 1048576) t) (hd : t < 0 ∨ fewRows l) : ∃ k, laws_FnExactWeightOf.f k l x y z = some true := by
  refine Ev.rounds ?_
  unfold laws_FnExactWeightOf.f
  refine Ev.bind ht ?_
  by_cases hn : t < 0
  · exact Ev.ite_pos hn (Ev.now _)
  · have hf := hd.resolve_left hn
    obtain ⟨b, c, h1, h2⟩ := bothWeightOf l x y z hf
    refine Ev.ite_neg hn (Ev.some_bind (toIntSS_eq l hf.ok) (Ev.bind h1 (Ev.some_bind (toIntSS_eq l hf.ok) (Ev.some_bind h2 (Ev.ite_pos rfl ?_)))))
    refine Ev.step (fun k => by rw [laws_FnExactWeightOf.j0]) ?_
    exact Ev.ite_neg (by simp) (Ev.some_bind (toIntSS_eq l hf.ok) (Ev.bind (eqIntSS l hf.ok) (Ev.ite_pos rfl (Ev.now _))))
theorem FnExactWeightOf (A : Option Addr) (cap : Nat) (l : List (List Int)) {W0 : World} (h : RowsIn W0 A l.length cap l) (x : Int) (_hx : (Lit.int .i64 x).wf = true) (y : Int) (_hy : (Lit.int .i64 y).wf = true) (z : Int) (_hz : (Lit.int .i64 z).wf = true) (W : World) (hW : W = W0) :
    Calls Try.prog 7 #[.slice A l.length cap, .int .i64 x, .int .i64 y, .int .i64 z] W fun e w' => e = .returned (.bool true) ∧ Below W.heap.size W w' := by
  subst hW
  obtain ⟨t, ht, hd⟩ := szIntSS_in h
  obtain ⟨k, hk⟩ := pureWeightOf l x y z t ht hd
  exact laws_FnExactWeightOf.calls k A cap l x y z true W h.read h.le hk
end Go.Proofs.Ytlpadkbpbmoliaa.Law
