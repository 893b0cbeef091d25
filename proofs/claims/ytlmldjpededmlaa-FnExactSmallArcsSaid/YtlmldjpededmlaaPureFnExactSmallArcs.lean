/- The program's SmallArcs answers as the reference's SmallArcs, for every list of numbers; its argument stays as it was, and its result shares no memory (the pure statement of the row FnExactSmallArcs; no condition). -/
import Derived.Test.YtlmldjpededmlaaLb
import Derived.Test.YtlmldjpededmlaaPx5
namespace Go.Proofs.Ytlmldjpededmlaa.Pure
open Go.RowKit Go.Proofs.Ytlmldjpededmlaa Go.Proofs.Ytlmldjpededmlaa.P Go.Proofs.Ytlmldjpededmlaa.L Go.Proofs.YtlmldjpededmlaaW.PrintWords Go.Proofs.YtlmldjpededmlaaW.PrintLast Go.Proofs.YtlmldjpededmlaaW.PrintMore

theorem arcs_l0 (l : List Int) (hl : l.length ≤ 1048576) : ∀ (d i : Nat) (o : List Int), i + d = l.length → o.length ≤ i →
    ∃ r : List Int, r.length ≤ l.length ∧ Ev (fun k => spec_SmallArcs.l0 k l o l l.length i) (r, true) ∧ Ev (fun k => impl_SmallArcs.l0 k l o l l.length i) (r, true) := by
  intro d
  induction d with
  | zero =>
    intro i o hi ho
    refine ⟨o, by omega, ?_, ?_⟩
    · refine Ev.step (fun k => by rw [spec_SmallArcs.l0]) ?_
      exact Ev.ite_neg (by omega) (Ev.now _)
    · refine Ev.step (fun k => by rw [impl_SmallArcs.l0]) ?_
      exact Ev.ite_neg (by omega) (Ev.now _)
  | succ d ih =>
    intro i o hi ho
    by_cases h : rd l i = Int.tmod (wrap64 ((i : Int) + 1)) (l.length : Int)
    · obtain ⟨r, hr, h1, h2⟩ := ih (i + 1) (o ++ [(i : Int)]) (by omega) (by simp; omega)
      refine ⟨r, hr, ?_, ?_⟩
      · refine Ev.step (fun k => by rw [spec_SmallArcs.l0]) ?_
        refine Ev.ite_pos (by omega) (Ev.ite_pos (by omega) (Ev.ite_pos (by omega) (Ev.ite_neg (by omega) (Ev.ite_pos h (Ev.ite_pos (by omega) ?_)))))
        rw [wrapS i (by omega)]
        exact h1
      · refine Ev.step (fun k => by rw [impl_SmallArcs.l0]) ?_
        refine Ev.ite_pos (by omega) (Ev.ite_pos (by omega) (Ev.ite_pos (by omega) (Ev.ite_neg (by omega) (Ev.ite_pos h (Ev.ite_pos (by omega) ?_)))))
        rw [wrapS i (by omega)]
        exact h2
    · obtain ⟨r, hr, h1, h2⟩ := ih (i + 1) o (by omega) (by omega)
      refine ⟨r, hr, ?_, ?_⟩
      · refine Ev.step (fun k => by rw [spec_SmallArcs.l0]) ?_
        refine Ev.ite_pos (by omega) (Ev.ite_pos (by omega) (Ev.ite_pos (by omega) (Ev.ite_neg (by omega) (Ev.ite_neg h ?_))))
        rw [wrapS i (by omega)]
        exact h1
      · refine Ev.step (fun k => by rw [impl_SmallArcs.l0]) ?_
        refine Ev.ite_pos (by omega) (Ev.ite_pos (by omega) (Ev.ite_pos (by omega) (Ev.ite_neg (by omega) (Ev.ite_neg h ?_))))
        rw [wrapS i (by omega)]
        exact h2
theorem arcs_both (l : List Int) (hl : l.length ≤ 1048576) : ∃ (r : List Int) (b : Bool), r.length ≤ l.length ∧ Ev (fun k => spec_SmallArcs.f k l) (r, b) ∧ Ev (fun k => impl_SmallArcs.f k l) (r, b) := by
  unfold spec_SmallArcs.f impl_SmallArcs.f
  have hl2 : l.length ≤ 35184372088832 := by omega
  cases h : isPat l with
  | false =>
    exact ⟨[], false, by simp, Ev.bind (h ▸ spec_loIsPattern_ev l hl2) (Ev.ite_neg (by simp) (Ev.now _)), Ev.bind (h ▸ impl_IsPattern_ev l hl2) (Ev.ite_neg (by simp) (Ev.now _))⟩
  | true =>
    obtain ⟨r, hr, h1, h2⟩ := arcs_l0 l hl l.length 0 [] (by omega) (by simp)
    exact ⟨r, true, hr, Ev.bind (h ▸ spec_loIsPattern_ev l hl2) (Ev.ite_pos rfl h1), Ev.bind (h ▸ impl_IsPattern_ev l hl2) (Ev.ite_pos rfl h2)⟩

theorem FnExactSmallArcs : laws_FnExactSmallArcs.Pure := by
  intro l _ hl _
  refine Ev.rounds ?_
  have hl2 : l.length ≤ 35184372088832 := by omega
  unfold laws_FnExactSmallArcs.f
  by_cases hb : (l.length : Int) > 1048576
  · exact Ev.ite_pos hb (Ev.now _)
  · refine Ev.ite_neg hb ?_
    obtain ⟨r, b, hr, h1, h2⟩ := arcs_both l (by omega)
    have hr2 : r.length ≤ 35184372088832 := by omega
    refine Ev.bind (toIntS l hl2) (Ev.bind h1 (Ev.bind (toIntS l hl2) (Ev.bind h2 (Ev.bind (eqIntS r hr2) (Ev.ite_pos rfl ?_)))))
    refine Ev.step (fun k => by rw [laws_FnExactSmallArcs.j0]) ?_
    refine Ev.ite_neg (by simp) (Ev.bind (toIntS l hl2) (Ev.bind (eqIntS l hl2) (Ev.ite_pos rfl (Ev.bind (markIntS l 1 (by omega) (by omega)) (Ev.ite_neg (by simp; omega) (Ev.bind (eqIntS r hr2) (Ev.ite_pos rfl ?_)))))))
    refine Ev.step (fun k => by rw [laws_FnExactSmallArcs.j1]) ?_
    refine Ev.ite_neg (by simp) (Ev.bind (markIntS r 1 (by omega) (by omega)) (Ev.bind (heldIntS 1 r.length (by omega) (by omega)) (Ev.ite_neg (by omega) (Ev.ite_pos rfl ?_))))
    refine Ev.bind (toIntS l hl2) (Ev.bind h2 (Ev.bind (eqIntS r hr2) (Ev.ite_pos rfl ?_)))
    refine Ev.step (fun k => by rw [laws_FnExactSmallArcs.j2]) ?_
    exact Ev.ite_neg (by simp) (Ev.bind (heldIntS 1 r.length (by omega) (by omega)) (Ev.ite_neg (by omega) (Ev.ite_pos rfl (Ev.now _))))

end Go.Proofs.Ytlmldjpededmlaa.Pure
