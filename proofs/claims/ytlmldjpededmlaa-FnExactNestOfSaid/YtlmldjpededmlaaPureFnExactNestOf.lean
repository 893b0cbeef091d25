/- The program's NestOf answers as the reference's NestOf, for every list of numbers (the pure statement of the row FnExactNestOf; no condition). -/
import Derived.Test.YtlmldjpededmlaaLb
import Derived.Test.YtlmldjpededmlaaPx4
namespace Go.Proofs.Ytlmldjpededmlaa.Pure
open Go.RowKit Go.Proofs.Ytlmldjpededmlaa Go.Proofs.Ytlmldjpededmlaa.P Go.Proofs.Ytlmldjpededmlaa.L Go.Proofs.YtlmldjpededmlaaW.PrintWords Go.Proofs.YtlmldjpededmlaaW.PrintLast Go.Proofs.YtlmldjpededmlaaW.PrintMore

theorem nest_l0 (l : List Int) (hl : l.length ≤ 35184372088832) : ∀ (d i : Nat) (m o : Int), i + d = l.length → 0 ≤ m → o ≤ m → m ≤ i → -(i : Int) ≤ o →
    ∃ r, Ev (fun k => spec_NestOf.l0 k m o l l.length i) r ∧ Ev (fun k => impl_NestOf.l0 k m o l l.length i) r := by
  intro d
  induction d with
  | zero =>
    intro i m o hi _ _ _ _
    refine ⟨(m, true), ?_, ?_⟩
    · refine Ev.step (fun k => by rw [spec_NestOf.l0]) ?_
      exact Ev.ite_neg (by omega) (Ev.now _)
    · refine Ev.step (fun k => by rw [impl_NestOf.l0]) ?_
      exact Ev.ite_neg (by omega) (Ev.now _)
  | succ d ih =>
    intro i m o hi hm hom hmi ho
    by_cases h : rd l i > (i : Int)
    · have hc : mx m (o + 1) ≤ (i + 1 : Nat) ∧ o + 1 ≤ mx m (o + 1) ∧ 0 ≤ mx m (o + 1) := by unfold mx; omega
      obtain ⟨r, h1, h2⟩ := ih (i + 1) (mx m (o + 1)) (o + 1) (by omega) hc.2.2 hc.2.1 hc.1 (by omega)
      refine ⟨r, ?_, ?_⟩
      · refine Ev.step (fun k => by rw [spec_NestOf.l0]) ?_
        refine Ev.ite_pos (by omega) (Ev.ite_pos (by omega) (Ev.ite_pos (by omega) (Ev.ite_pos h ?_)))
        rw [wrapI (o + 1) (by omega) (by omega), wrapS i (by omega)]
        have : spec_l1Most.f m (o + 1) = some (mx m (o + 1)) := by
          unfold spec_l1Most.f mx
          by_cases hq : m > o + 1
          · rw [if_pos hq, if_neg (by omega)]
          · rw [if_neg hq]; by_cases hq2 : m < o + 1
            · rw [if_pos hq2]
            · rw [if_neg hq2]; congr 1; omega
        simp only [this, Option.bind_some]
        exact h1
      · refine Ev.step (fun k => by rw [impl_NestOf.l0]) ?_
        refine Ev.ite_pos (by omega) (Ev.ite_pos (by omega) (Ev.ite_pos (by omega) (Ev.ite_pos h ?_)))
        rw [wrapI (o + 1) (by omega) (by omega), wrapS i (by omega)]
        exact h2
    · obtain ⟨r, h1, h2⟩ := ih (i + 1) m (o - 1) (by omega) hm (by omega) (by omega) (by omega)
      refine ⟨r, ?_, ?_⟩
      · refine Ev.step (fun k => by rw [spec_NestOf.l0]) ?_
        refine Ev.ite_pos (by omega) (Ev.ite_pos (by omega) (Ev.ite_pos (by omega) (Ev.ite_neg h ?_)))
        rw [wrapI (o - 1) (by omega) (by omega), wrapS i (by omega)]
        have : spec_l1Most.f m (o - 1) = some m := by unfold spec_l1Most.f; rw [if_pos (by omega)]
        simp only [this, Option.bind_some]
        exact h1
      · refine Ev.step (fun k => by rw [impl_NestOf.l0]) ?_
        refine Ev.ite_pos (by omega) (Ev.ite_pos (by omega) (Ev.ite_pos (by omega) (Ev.ite_neg h ?_)))
        rw [wrapI (o - 1) (by omega) (by omega), wrapS i (by omega)]
        exact h2
theorem nest_both (l : List Int) (hl : l.length ≤ 35184372088832) : ∃ r, Ev (fun k => spec_NestOf.f k l) r ∧ Ev (fun k => impl_NestOf.f k l) r := by
  unfold spec_NestOf.f impl_NestOf.f
  cases h : isPat l with
  | false =>
    exact ⟨(0, false), Ev.bind (h ▸ spec_loIsPattern_ev l hl) (Ev.ite_neg (by simp) (Ev.now _)), Ev.bind (h ▸ impl_IsPattern_ev l hl) (Ev.ite_neg (by simp) (Ev.now _))⟩
  | true =>
    obtain ⟨r, h1, h2⟩ := nest_l0 l hl l.length 0 0 0 (by omega) (by omega) (by omega) (by omega) (by omega)
    exact ⟨r, Ev.bind (h ▸ spec_loIsPattern_ev l hl) (Ev.ite_pos rfl h1), Ev.bind (h ▸ impl_IsPattern_ev l hl) (Ev.ite_pos rfl h2)⟩

theorem FnExactNestOf : laws_FnExactNestOf.Pure := by
  intro l _ hl _
  refine Ev.rounds ?_
  have hl2 : l.length ≤ 35184372088832 := by omega
  unfold laws_FnExactNestOf.f
  by_cases hb : (l.length : Int) > 1048576
  · exact Ev.ite_pos hb (Ev.now _)
  · refine Ev.ite_neg hb ?_
    obtain ⟨r, h1, h2⟩ := nest_both l hl2
    refine Ev.bind (toIntS l hl2) (Ev.bind h1 (Ev.bind (toIntS l hl2) (Ev.bind h2 (Ev.ite_pos rfl ?_))))
    refine Ev.step (fun k => by rw [laws_FnExactNestOf.j0]) ?_
    refine Ev.ite_neg (by simp) ?_
    exact Ev.bind (toIntS l hl2) (Ev.bind (eqIntS l hl2) (Ev.ite_pos rfl (Ev.now _)))

end Go.Proofs.Ytlmldjpededmlaa.Pure
