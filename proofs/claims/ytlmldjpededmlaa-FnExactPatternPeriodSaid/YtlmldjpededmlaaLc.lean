import Derived.Test.YtlmldjpededmlaaLa
import Derived.Test.YtlmldjpededmlaaPx7
import Derived.Test.YtlmldjpededmlaaPx8
namespace Go.Proofs.Ytlmldjpededmlaa.L
open Go.RowKit Go.Proofs.Ytlmldjpededmlaa Go.Proofs.Ytlmldjpededmlaa.P Go.Proofs.YtlmldjpededmlaaW.PrintWords Go.Proofs.YtlmldjpededmlaaW.PrintLast Go.Proofs.YtlmldjpededmlaaW.PrintMore
theorem drop_eq_iff (a b : List Int) (i : Nat) (ha : i < a.length) (hb : i < b.length) : a.drop i = b.drop i ↔ rd a i = rd b i ∧ a.drop (i + 1) = b.drop (i + 1) := by
  rw [List.drop_eq_getElem_cons ha, List.drop_eq_getElem_cons hb, rd_at a i ha, rd_at b i hb, List.cons.injEq]

theorem spec_l1Same_l0 (a b : List Int) (hl : a.length ≤ 35184372088832) (hab : a.length = b.length) : ∀ (d i : Nat), i + d = a.length → Ev (fun k => spec_l1Same.l0 k a b a.length i) (decide (a.drop i = b.drop i)) := by
  intro d
  induction d with
  | zero =>
    intro i hi
    refine Ev.step (fun k => by rw [spec_l1Same.l0]) ?_
    rw [List.drop_eq_nil_of_le (by omega), List.drop_eq_nil_of_le (by omega)]
    exact Ev.ite_neg (by omega) (Ev.now _)
  | succ d ih =>
    intro i hi
    refine Ev.step (fun k => by rw [spec_l1Same.l0]) ?_
    refine Ev.ite_pos (by omega) (Ev.ite_pos (by omega) (Ev.ite_pos (by omega) (Ev.ite_pos (by omega) ?_)))
    have he := drop_eq_iff a b i (by omega) (by omega)
    by_cases h : rd a i = rd b i
    · refine Ev.ite_pos h ?_
      rw [wrapS i (by omega), show decide (a.drop i = b.drop i) = decide (a.drop (i + 1) = b.drop (i + 1)) from by rw [decide_eq_decide, he]; simp [h]]
      exact ih (i + 1) (by omega)
    · refine Ev.ite_neg h ?_
      rw [decide_eq_false (fun h2 => h (he.1 h2).1)]
      exact Ev.now _
theorem spec_l1Same_ev (a b : List Int) (hl : a.length ≤ 35184372088832) : Ev (fun k => spec_l1Same.f k a b) (decide (a = b)) := by
  unfold spec_l1Same.f
  by_cases h : (a.length : Int) = (b.length : Int)
  · refine Ev.ite_pos h ?_
    have := spec_l1Same_l0 a b hl (by omega) a.length 0 (by omega)
    simpa using this
  · refine Ev.ite_neg h ?_
    rw [decide_eq_false (fun e => h (by rw [e]))]
    exact Ev.now _

theorem slices_Equal_int_int_l0 (a b : List Int) (hl : a.length ≤ 35184372088832) (hab : a.length = b.length) : ∀ (d i : Nat), i + d = a.length → Ev (fun k => slices_Equal_int_int.l0 k a b a.length i) (decide (a.drop i = b.drop i)) := by
  intro d
  induction d with
  | zero =>
    intro i hi
    refine Ev.step (fun k => by rw [slices_Equal_int_int.l0]) ?_
    rw [List.drop_eq_nil_of_le (by omega), List.drop_eq_nil_of_le (by omega)]
    exact Ev.ite_neg (by omega) (Ev.now _)
  | succ d ih =>
    intro i hi
    refine Ev.step (fun k => by rw [slices_Equal_int_int.l0]) ?_
    refine Ev.ite_pos (by omega) (Ev.ite_pos (by omega) (Ev.ite_pos (by omega) (Ev.ite_pos (by omega) ?_)))
    have he := drop_eq_iff a b i (by omega) (by omega)
    by_cases h : rd a i = rd b i
    · refine Ev.ite_pos h ?_
      rw [wrapS i (by omega), show decide (a.drop i = b.drop i) = decide (a.drop (i + 1) = b.drop (i + 1)) from by rw [decide_eq_decide, he]; simp [h]]
      exact ih (i + 1) (by omega)
    · refine Ev.ite_neg h ?_
      rw [decide_eq_false (fun h2 => h (he.1 h2).1)]
      exact Ev.now _
theorem slices_Equal_int_int_ev (a b : List Int) (hl : a.length ≤ 35184372088832) : Ev (fun k => slices_Equal_int_int.f k a b) (decide (a = b)) := by
  unfold slices_Equal_int_int.f
  by_cases h : (a.length : Int) = (b.length : Int)
  · refine Ev.ite_pos h ?_
    have := slices_Equal_int_int_l0 a b hl (by omega) a.length 0 (by omega)
    simpa using this
  · refine Ev.ite_neg h ?_
    rw [decide_eq_false (fun e => h (by rw [e]))]
    exact Ev.now _

end Go.Proofs.Ytlmldjpededmlaa.L
