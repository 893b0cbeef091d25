import Derived.Test.YtlmldjpededmlaaLa
import Derived.Test.YtlmldjpededmlaaPx2
import Derived.Test.YtlmldjpededmlaaPx3
namespace Go.Proofs.Ytlmldjpededmlaa.L
open Go.RowKit Go.Proofs.Ytlmldjpededmlaa Go.Proofs.Ytlmldjpededmlaa.P Go.Proofs.YtlmldjpededmlaaW.PrintWords Go.Proofs.YtlmldjpededmlaaW.PrintLast Go.Proofs.YtlmldjpededmlaaW.PrintMore

theorem l1In_eq (a b c : Int) : spec_l1In.f a b c = some (inB a b c) := by
  unfold spec_l1In.f inB
  by_cases h : a ≥ b
  · rw [if_pos h]; simp [show b ≤ a from h]
  · rw [if_neg h]; simp [show ¬ b ≤ a from h]
theorem within_eq (a b c : Int) : impl_within.f a b c = some (inB a b c) := rfl

theorem l1All_l0 (l : List Int) (a b : Int) (hl : l.length ≤ 35184372088832) : ∀ (d i : Nat), i + d = l.length → Ev (fun k => spec_l1All.l0 k a b l l.length i) ((l.drop i).all fun x => inB x a b) := by
  intro d
  induction d with
  | zero =>
    intro i hi
    refine Ev.step (fun k => by rw [spec_l1All.l0]) ?_
    rw [List.drop_eq_nil_of_le (by omega)]
    exact Ev.ite_neg (by omega) (Ev.now _)
  | succ d ih =>
    intro i hi
    refine Ev.step (fun k => by rw [spec_l1All.l0]) ?_
    refine Ev.ite_pos (by omega) (Ev.ite_pos (by omega) (Ev.ite_pos (by omega) ?_))
    rw [l1In_eq, rd_at l i (by omega), List.drop_eq_getElem_cons (by omega), List.all_cons]
    simp only [Option.bind_some]
    cases h : inB l[i] a b with
    | true =>
      refine Ev.ite_pos rfl ?_
      rw [wrapS i (by omega), Bool.true_and]
      exact ih (i + 1) (by omega)
    | false => exact Ev.ite_neg (by simp) (Ev.now _)
theorem l1All_ev (l : List Int) (a b : Int) (hl : l.length ≤ 35184372088832) : Ev (fun k => spec_l1All.f k l a b) (l.all fun x => inB x a b) := l1All_l0 l a b hl l.length 0 (by omega)

/-- What lies between i and its partner x. -/
def insideB (l : List Int) (i : Nat) (x : Int) (j : Nat) : Bool := (List.range' j (x.toNat - j)).all fun z => inB (rd l z) (i + 1) (x - 1)
def patAt (l : List Int) (i : Nat) : Bool := !(rd l i == (i : Int)) && (rd l (rd l i) == (i : Int)) && insideB l i (rd l i) (i + 1)
def patFrom (l : List Int) (i : Nat) : Bool := (List.range' i (l.length - i)).all (patAt l)
/-- A pattern, as both texts tell it. -/
def isPat (l : List Int) : Bool := decide (l.length % 2 = 0) && (inB (l.length / 2 : Nat) 1 6 && ((l.all fun x => inB x 0 (l.length - 1)) && patFrom l 0))
theorem insideB_step (l : List Int) (i : Nat) (x : Int) (j : Nat) (h : (j : Int) < x) : insideB l i x j = (inB (rd l j) (i + 1) (x - 1) && insideB l i x (j + 1)) := by
  unfold insideB
  obtain ⟨m, hm⟩ : ∃ m, x.toNat - j = m + 1 := ⟨x.toNat - j - 1, by omega⟩
  rw [hm, show x.toNat - (j + 1) = m by omega, List.range'_succ, List.all_cons]
theorem insideB_end (l : List Int) (i : Nat) (x : Int) (j : Nat) (h : ¬ (j : Int) < x) : insideB l i x j = true := by
  unfold insideB
  rw [show x.toNat - j = 0 by omega]; rfl
theorem patFrom_step (l : List Int) (i : Nat) (h : i < l.length) : patFrom l i = (patAt l i && patFrom l (i + 1)) := by
  unfold patFrom
  obtain ⟨m, hm⟩ : ∃ m, l.length - i = m + 1 := ⟨l.length - i - 1, by omega⟩
  rw [hm, show l.length - (i + 1) = m by omega, List.range'_succ, List.all_cons]
theorem patFrom_end (l : List Int) : patFrom l l.length = true := by unfold patFrom; rw [Nat.sub_self]; rfl
theorem all_mem {l : List Int} {a b : Int} (h : (l.all fun x => inB x a b) = true) (i : Nat) (hi : i < l.length) : a ≤ rd l i ∧ rd l i ≤ b := by
  rw [rd_at l i hi]
  exact (inB_iff _ _ _).1 (List.all_eq_true.1 h _ (List.getElem_mem hi))

theorem isSide_eq (n : Int) : impl_isSide.f n = some (inB n 1 6) := rfl

theorem spec_loIsPattern_l1 (l : List Int) (hl : l.length ≤ 35184372088832) (i : Nat) (hi : i < l.length) (x : Int) (hx0 : 0 ≤ x) (hx : x < l.length) (rest : Bool)
    (hr : Ev (fun k => spec_loIsPattern.l0 k l l l.length ((i + 1 : Nat) : Int)) rest) : ∀ (d j : Nat), i + 1 ≤ j → x.toNat - j ≤ d → Ev (fun k => spec_loIsPattern.l1 k l i x j l l.length i) (insideB l i x j && rest) := by
  intro d
  induction d with
  | zero =>
    intro j hij hd
    refine Ev.step (fun k => by rw [spec_loIsPattern.l1]) ?_
    rw [insideB_end l i x j (by omega), Bool.true_and]
    refine Ev.ite_neg (by omega) ?_
    rw [wrapS i (by omega)]
    exact hr
  | succ d ih =>
    intro j hij hd
    refine Ev.step (fun k => by rw [spec_loIsPattern.l1]) ?_
    by_cases hjx : (j : Int) < x
    · refine Ev.ite_pos hjx (Ev.ite_pos (by omega) (Ev.ite_pos (by omega) ?_))
      rw [l1In_eq, wrapI (x - 1) (by omega) (by omega), wrapI ((i : Int) + 1) (by omega) (by omega), insideB_step l i x j hjx]
      simp only [Option.bind_some]
      cases hb : inB (rd l j) (i + 1) (x - 1) with
      | true =>
        refine Ev.ite_pos rfl ?_
        rw [wrapS j (by omega), Bool.true_and]
        exact ih (j + 1) (by omega) (by omega)
      | false => exact Ev.ite_neg (by simp) (Ev.now _)
    · rw [insideB_end l i x j hjx, Bool.true_and]
      refine Ev.ite_neg hjx ?_
      rw [wrapS i (by omega)]
      exact hr
theorem spec_loIsPattern_l0 (l : List Int) (hl : l.length ≤ 35184372088832) (ha : (l.all fun x => inB x 0 (l.length - 1)) = true) : ∀ (d i : Nat), i + d = l.length → Ev (fun k => spec_loIsPattern.l0 k l l l.length i) (patFrom l i) := by
  intro d
  induction d with
  | zero =>
    intro i hi
    refine Ev.step (fun k => by rw [spec_loIsPattern.l0]) ?_
    have : i = l.length := by omega
    subst this
    rw [patFrom_end]
    exact Ev.ite_neg (by omega) (Ev.now _)
  | succ d ih =>
    intro i hi
    have hx := all_mem ha i (by omega)
    refine Ev.step (fun k => by rw [spec_loIsPattern.l0]) ?_
    refine Ev.ite_pos (by omega) (Ev.ite_pos (by omega) (Ev.ite_pos (by omega) ?_))
    rw [patFrom_step l i (by omega)]
    unfold patAt
    by_cases h1 : rd l i = (i : Int)
    · refine Ev.ite_pos h1 ?_
      refine Ev.step (fun k => by rw [spec_loIsPattern.j2]) ?_
      refine Ev.ite_pos rfl ?_
      rw [show (rd l i == (i : Int)) = true from beq_iff_eq.2 h1]
      exact Ev.now _
    · refine Ev.ite_neg h1 (Ev.ite_pos (by omega) (Ev.ite_pos (by omega) ?_))
      rw [show (rd l i == (i : Int)) = false from beq_eq_false_iff_ne.2 h1]
      refine Ev.step (fun k => by rw [spec_loIsPattern.j2]) ?_
      by_cases h2 : rd l (rd l i) = (i : Int)
      · rw [show (rd l (rd l i) == (i : Int)) = true from beq_iff_eq.2 h2]
        refine Ev.ite_neg (by simp [h2]) ?_
        simp only [Bool.not_false, Bool.true_and]
        rw [wrapS i (by omega)]
        exact spec_loIsPattern_l1 l hl i (by omega) (rd l i) (by omega) (by omega) _ (ih (i + 1) (by omega)) _ (i + 1) (Nat.le_refl _) (Nat.le_refl _)
      · rw [show (rd l (rd l i) == (i : Int)) = false from beq_eq_false_iff_ne.2 h2]
        refine Ev.ite_pos (by simp [h2]) ?_
        simp only [Bool.not_false, Bool.true_and, Bool.false_and]
        exact Ev.now _
theorem spec_loIsPattern_j0 (l : List Int) (b : Bool) (hb : b = false → (l.all fun x => inB x 0 (l.length - 1)) = true) (hl : l.length ≤ 35184372088832) : Ev (fun k => spec_loIsPattern.j0 k l b) (!b && patFrom l 0) := by
  refine Ev.step (fun k => by rw [spec_loIsPattern.j0]) ?_
  cases b with
  | true => exact Ev.ite_pos rfl (Ev.now _)
  | false =>
    refine Ev.ite_neg (by simp) ?_
    exact spec_loIsPattern_l0 l hl (hb rfl) l.length 0 (by omega)
theorem spec_loIsPattern_ev (l : List Int) (hl : l.length ≤ 35184372088832) : Ev (fun k => spec_loIsPattern.f k l) (isPat l) := by
  unfold spec_loIsPattern.f isPat
  by_cases h1 : ((l.length : Int) % 2) = 1
  · refine Ev.ite_pos h1 ?_
    rw [show decide (l.length % 2 = 0) = false from decide_eq_false (by omega)]
    exact spec_loIsPattern_j0 l true (by simp) hl
  · refine Ev.ite_neg h1 ?_
    rw [show decide (l.length % 2 = 0) = true from decide_eq_true (by omega), Bool.true_and, wrapI _ (by omega) (by omega), l1In_eq, show ((l.length : Int) / 2) = ((l.length / 2 : Nat) : Int) by omega]
    simp only [Option.bind_some]
    cases h2 : inB (l.length / 2 : Nat) 1 6 with
    | false =>
      refine Ev.ite_neg (by simp) ?_
      exact spec_loIsPattern_j0 l true (by simp) hl
    | true =>
      refine Ev.ite_pos rfl ?_
      rw [wrapI _ (by omega) (by omega), Bool.true_and]
      refine Ev.bind (l1All_ev l 0 (l.length - 1) hl) ?_
      cases h3 : (l.all fun x => inB x 0 (l.length - 1)) with
      | false =>
        exact spec_loIsPattern_j0 l true (by simp) hl
      | true =>
        have := spec_loIsPattern_j0 l false (fun _ => h3) hl
        simpa using this

theorem impl_IsPattern_l1 (l : List Int) (hl : l.length ≤ 35184372088832) (i : Nat) (hi : i < l.length) (x : Int) (hx0 : 0 ≤ x) (hx : x < l.length) (rest : Bool)
    (hr : Ev (fun k => impl_IsPattern.l0 k l l l.length ((i + 1 : Nat) : Int)) rest) : ∀ (d j : Nat), i + 1 ≤ j → x.toNat - j ≤ d → Ev (fun k => impl_IsPattern.l1 k l i x j l l.length i) (insideB l i x j && rest) := by
  intro d
  induction d with
  | zero =>
    intro j hij hd
    refine Ev.step (fun k => by rw [impl_IsPattern.l1]) ?_
    rw [insideB_end l i x j (by omega), Bool.true_and]
    refine Ev.ite_neg (by omega) ?_
    rw [wrapS i (by omega)]
    exact hr
  | succ d ih =>
    intro j hij hd
    refine Ev.step (fun k => by rw [impl_IsPattern.l1]) ?_
    by_cases hjx : (j : Int) < x
    · refine Ev.ite_pos hjx (Ev.ite_pos (by omega) (Ev.ite_pos (by omega) ?_))
      rw [within_eq, wrapI (x - 1) (by omega) (by omega), wrapI ((i : Int) + 1) (by omega) (by omega), insideB_step l i x j hjx]
      simp only [Option.bind_some]
      cases hb : inB (rd l j) (i + 1) (x - 1) with
      | true =>
        refine Ev.ite_pos rfl ?_
        rw [wrapS j (by omega), Bool.true_and]
        exact ih (j + 1) (by omega) (by omega)
      | false => exact Ev.ite_neg (by simp) (Ev.now _)
    · rw [insideB_end l i x j hjx, Bool.true_and]
      refine Ev.ite_neg hjx ?_
      rw [wrapS i (by omega)]
      exact hr
theorem impl_IsPattern_l0 (l : List Int) (hl : l.length ≤ 35184372088832) (ha : (l.all fun x => inB x 0 (l.length - 1)) = true) : ∀ (d i : Nat), i + d = l.length → Ev (fun k => impl_IsPattern.l0 k l l l.length i) (patFrom l i) := by
  intro d
  induction d with
  | zero =>
    intro i hi
    refine Ev.step (fun k => by rw [impl_IsPattern.l0]) ?_
    have : i = l.length := by omega
    subst this
    rw [patFrom_end]
    exact Ev.ite_neg (by omega) (Ev.now _)
  | succ d ih =>
    intro i hi
    have hx := all_mem ha i (by omega)
    refine Ev.step (fun k => by rw [impl_IsPattern.l0]) ?_
    refine Ev.ite_pos (by omega) (Ev.ite_pos (by omega) (Ev.ite_pos (by omega) ?_))
    rw [patFrom_step l i (by omega)]
    unfold patAt
    by_cases h1 : rd l i = (i : Int)
    · refine Ev.ite_pos h1 ?_
      refine Ev.step (fun k => by rw [impl_IsPattern.j2]) ?_
      refine Ev.ite_pos rfl ?_
      rw [show (rd l i == (i : Int)) = true from beq_iff_eq.2 h1]
      exact Ev.now _
    · refine Ev.ite_neg h1 (Ev.ite_pos (by omega) (Ev.ite_pos (by omega) ?_))
      rw [show (rd l i == (i : Int)) = false from beq_eq_false_iff_ne.2 h1]
      refine Ev.step (fun k => by rw [impl_IsPattern.j2]) ?_
      by_cases h2 : rd l (rd l i) = (i : Int)
      · rw [show (rd l (rd l i) == (i : Int)) = true from beq_iff_eq.2 h2]
        refine Ev.ite_neg (by simp [h2]) ?_
        simp only [Bool.not_false, Bool.true_and]
        rw [wrapS i (by omega)]
        exact impl_IsPattern_l1 l hl i (by omega) (rd l i) (by omega) (by omega) _ (ih (i + 1) (by omega)) _ (i + 1) (Nat.le_refl _) (Nat.le_refl _)
      · rw [show (rd l (rd l i) == (i : Int)) = false from beq_eq_false_iff_ne.2 h2]
        refine Ev.ite_pos (by simp [h2]) ?_
        simp only [Bool.not_false, Bool.true_and, Bool.false_and]
        exact Ev.now _
theorem impl_IsPattern_j0 (l : List Int) (b : Bool) (hb : b = false → (l.all fun x => inB x 0 (l.length - 1)) = true) (hl : l.length ≤ 35184372088832) : Ev (fun k => impl_IsPattern.j0 k l b) (!b && patFrom l 0) := by
  refine Ev.step (fun k => by rw [impl_IsPattern.j0]) ?_
  cases b with
  | true => exact Ev.ite_pos rfl (Ev.now _)
  | false =>
    refine Ev.ite_neg (by simp) ?_
    exact impl_IsPattern_l0 l hl (hb rfl) l.length 0 (by omega)
theorem impl_IsPattern_ev (l : List Int) (hl : l.length ≤ 35184372088832) : Ev (fun k => impl_IsPattern.f k l) (isPat l) := by
  unfold impl_IsPattern.f isPat
  by_cases h1 : ((l.length : Int) % 2) = 1
  · refine Ev.ite_pos h1 ?_
    rw [show decide (l.length % 2 = 0) = false from decide_eq_false (by omega)]
    exact impl_IsPattern_j0 l true (by simp) hl
  · refine Ev.ite_neg h1 ?_
    rw [show decide (l.length % 2 = 0) = true from decide_eq_true (by omega), Bool.true_and, wrapI _ (by omega) (by omega), isSide_eq, show ((l.length : Int) / 2) = ((l.length / 2 : Nat) : Int) by omega]
    simp only [Option.bind_some]
    cases h2 : inB (l.length / 2 : Nat) 1 6 with
    | false =>
      refine Ev.ite_neg (by simp) ?_
      exact impl_IsPattern_j0 l true (by simp) hl
    | true =>
      refine Ev.ite_pos rfl ?_
      rw [wrapI _ (by omega) (by omega), Bool.true_and]
      unfold impl_areWithin.f
      simp only [Option.bind_some]
      cases h3 : (l.all fun x => inB x 0 (l.length - 1)) with
      | false =>
        exact impl_IsPattern_j0 l true (by simp) hl
      | true =>
        have := impl_IsPattern_j0 l false (fun _ => h3) hl
        simpa using this

theorem isPat_facts {l : List Int} (h : isPat l = true) : 2 ≤ l.length ∧ l.length ≤ 12 ∧ l.length % 2 = 0 ∧ (l.all fun x => inB x 0 (l.length - 1)) = true ∧
    ∀ i : Nat, i < l.length → 0 ≤ rd l i ∧ rd l i < l.length ∧ rd l i ≠ i ∧ rd l (rd l i) = i := by
  simp only [isPat, Bool.and_eq_true] at h
  have hb := (inB_iff _ _ _).1 h.2.1
  have he := of_decide_eq_true h.1
  refine ⟨by omega, by omega, he, h.2.2.1, fun i hi => ?_⟩
  have hx := all_mem h.2.2.1 i hi
  have hp := List.all_eq_true.1 h.2.2.2 i (by rw [List.mem_range'_1]; omega)
  simp only [patAt, Bool.and_eq_true, Bool.not_eq_true', beq_iff_eq, beq_eq_false_iff_ne] at hp
  exact ⟨by omega, by omega, hp.1.1, hp.1.2⟩

end Go.Proofs.Ytlmldjpededmlaa.L
