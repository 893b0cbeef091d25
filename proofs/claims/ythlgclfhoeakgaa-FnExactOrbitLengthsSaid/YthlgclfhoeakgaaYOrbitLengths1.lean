/- The program's OrbitLengths answers as the reference's OrbitLengths, for every number; what comes back is the call's own (the pure statement of the row FnExactOrbitLengths; no condition). -/
import Derived.Test.YthlgclfhoeakgaaYOrbitLengths0
namespace Go.Proofs.Ythlgclfhoeakgaa.Pure
open Go.RowKit Go.Proofs.Ythlgclfhoeakgaa Go.Proofs.Ythlgclfhoeakgaa.P Go.Proofs.Ythlgclfhoeakgaa.L Go.Proofs.YthlgclfhoeakgaaW.PrintWords Go.Proofs.YthlgclfhoeakgaaW.PrintLast Go.Proofs.YthlgclfhoeakgaaW.PrintMore
set_option maxRecDepth 100000

theorem OrbitLengths_ev (n : Int) : ∃ (b : List Int) (c : Bool), Ev (fun k => spec_OrbitLengths.f k n) (b, c) ∧ impl_OrbitLengths.f n = some (b, c) ∧ b.length ≤ 429 := by
 unfold spec_OrbitLengths.f
 rw [gyFew_eq]
 cases hb : inB n 1 5 with
 | false => exact ⟨[], false, Ev.some_bind rfl (Ev.ite_neg (by simp) (Ev.now _)), ol_false hb, by simp⟩
 | true =>
  obtain ⟨m, rfl⟩ := in_nat hb
  obtain ⟨h1, h2, h3⟩ := ol_true hb
  exact ⟨olN m, true, Ev.some_bind rfl (Ev.ite_pos rfl (Ev.bind (gyLengths_ev h2 h3) (Ev.now _))), h1, olN_length h2 h3⟩
theorem FnExactOrbitLengths : laws_FnExactOrbitLengths.Pure := by
 intro n
 intros
 obtain ⟨r, d, h1, h2, hl⟩ := OrbitLengths_ev n
 have he := eqIntS_ev r (by omega)
 have hm := markIntS_ev r 1 (by omega)
 have hh := heldIntS_ev r.length 1 (by omega)
 refine Ev.rounds ?_
 unfold laws_FnExactOrbitLengths.f
 refine Ev.bind h1 (Ev.some_bind h2 (Ev.bind he (Ev.ite_pos rfl ?_)))
 refine Ev.step (fun k => by rw [laws_FnExactOrbitLengths.j0]) ?_
 refine Ev.ite_neg (by simp) (Ev.bind hm ?_)
 refine Ev.bind hh ?_
 refine Ev.ite_neg (by omega) (Ev.ite_pos rfl (Ev.some_bind h2 (Ev.bind he (Ev.ite_pos rfl ?_))))
 refine Ev.step (fun k => by rw [laws_FnExactOrbitLengths.j1]) ?_
 refine Ev.ite_neg (by simp) ?_
 refine Ev.bind hh ?_
 exact Ev.ite_neg (by omega) (Ev.ite_pos rfl (Ev.now _))
end Go.Proofs.Ythlgclfhoeakgaa.Pure
