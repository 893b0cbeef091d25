/- The rows below a row: what the two sides make. -/
import Derived.Test.YtdcdkckpmkfjdaaLA
import Derived.Test.YtdcdkckpmkfjdaaPx103
import Derived.Test.YtdcdkckpmkfjdaaPx105
import Derived.Test.YtdcdkckpmkfjdaaPx0
import Derived.Test.YtdcdkckpmkfjdaaPx99
import Derived.Test.YtdcdkckpmkfjdaaPx110
import Derived.Test.YtdcdkckpmkfjdaaUA
import Derived.Test.YtdcdkckpmkfjdaaHA
namespace Go.Proofs.Ytdcdkckpmkfjdaa.L
open Go.RowKit Go.Proofs.Ytdcdkckpmkfjdaa Go.Proofs.Ytdcdkckpmkfjdaa.P Go.Proofs.YtdcdkckpmkfjdaaW.PrintWords Go.Proofs.YtdcdkckpmkfjdaaW.PrintLast Go.Proofs.YtdcdkckpmkfjdaaW.PrintMore

theorem l1In_eq (a b c : Int) : spec_l1In.f a b c = some (inB a b c) := by
  unfold spec_l1In.f inB
  by_cases h : a ≥ b
  · rw [if_pos h]; simp [show b ≤ a from h]
  · rw [if_neg h]; simp [show ¬ b ≤ a from h]
theorem l1All_l0 (l : List Int) (a b : Int) (hl : l.length ≤ 17592186044416) : ∀ (d i : Nat), i + d = l.length → Ev (fun k => spec_l1All.l0 k a b l l.length i) ((l.drop i).all fun x => inB x a b) := by
  intro d
  induction d with
  | zero =>
    intro i hi
    refine Ev.step (fun k => by rw [spec_l1All.l0]) ?_
    rw [List.drop_eq_nil_of_le (by omega)]
    exact Ev.ite_neg (by omega) (Ev.now _)
  | succ d ih =>
    intro i hi
    refine Ev.step (fun k => by rw [spec_l1All.l0]) ?_
    refine Ev.ite_pos (by omega) (Ev.ite_pos (by omega) (Ev.ite_pos (by omega) ?_))
    rw [l1In_eq, rd_at l i (by omega), List.drop_eq_getElem_cons (by omega), List.all_cons]
    simp only [Option.bind_some]
    cases h : inB l[i] a b with
    | true =>
      refine Ev.ite_pos rfl ?_
      rw [wrapS i (by omega), Bool.true_and]
      exact ih (i + 1) (by omega)
    | false => exact Ev.ite_neg (by simp) (Ev.now _)
theorem l1All_ev (l : List Int) (a b : Int) (hl : l.length ≤ 17592186044416) : Ev (fun k => spec_l1All.f k l a b) (l.all fun x => inB x a b) := l1All_l0 l a b hl l.length 0 (by omega)

/-- From place i on no number is greater than the one before. -/
def noninc (r : List Int) (i : Nat) : Bool := (List.range' i (r.length - i)).all fun z => decide (rd r z ≤ rd r ((z - 1 : Nat) : Int))
theorem noninc_end (r : List Int) (i : Nat) (h : r.length ≤ i) : noninc r i = true := by unfold noninc; rw [show r.length - i = 0 by omega]; rfl
theorem noninc_step (r : List Int) (i : Nat) (h : i < r.length) : noninc r i = (decide (rd r i ≤ rd r ((i - 1 : Nat) : Int)) && noninc r (i + 1)) := by
  unfold noninc
  obtain ⟨m, hm⟩ : ∃ m, r.length - i = m + 1 := ⟨r.length - i - 1, by omega⟩
  rw [hm, show r.length - (i + 1) = m by omega, List.range'_succ, List.all_cons]
/-- Parts that can be a row. -/
def rowGood (n : Int) (r : List Int) : Bool := decide (0 < r.length) && ((r.all fun x => inB x 1 n) && (decide ((r.length : Int) < rd r 0) && noninc r 1))
theorem all_rd {r : List Int} {a b : Int} (h : (r.all fun x => inB x a b) = true) (i : Nat) (hi : i < r.length) : a ≤ rd r i ∧ rd r i ≤ b := by
  rw [rd_at r i hi]
  exact (inB_iff _ _ _).1 (List.all_eq_true.1 h _ (List.getElem_mem hi))
theorem rowGood_facts {n : Int} {r : List Int} (h : rowGood n r = true) : 0 < r.length ∧ (r.length : Int) < n ∧ (r.all fun x => inB x 1 n) = true ∧ (r.length : Int) < rd r 0 := by
  simp only [rowGood, Bool.and_eq_true] at h
  have h1 := of_decide_eq_true h.1
  have h3 := of_decide_eq_true h.2.2.1
  have h2 := all_rd h.2.1 0 h1
  simp only [Int.natCast_zero] at h2
  have : rd r ((0 : Nat) : Int) = rd r 0 := rfl
  exact ⟨h1, by omega, h.2.1, h3⟩

theorem dpRow_l0 (r : List Int) (hl : r.length ≤ 17592186044416) : ∀ (d i : Nat), 1 ≤ i → r.length - i ≤ d → Ev (fun k => spec_dpRow.l0 k r i) (noninc r i) := by
  intro d
  induction d with
  | zero =>
    intro i h1 hi
    refine Ev.step (fun k => by rw [spec_dpRow.l0]) ?_
    rw [noninc_end r i (by omega)]
    exact Ev.ite_neg (by omega) (Ev.now _)
  | succ d ih =>
    intro i h1 hi
    refine Ev.step (fun k => by rw [spec_dpRow.l0]) ?_
    by_cases hlt : i < r.length
    · rw [wrapP i h1 (by omega), noninc_step r i hlt]
      refine Ev.ite_pos (by omega) (Ev.ite_pos (by omega) (Ev.ite_pos (by omega) (Ev.ite_pos (by omega) ?_)))
      by_cases hq : rd r i > rd r ((i - 1 : Nat) : Int)
      · refine Ev.ite_pos hq ?_
        rw [decide_eq_false (by omega)]
        exact Ev.now _
      · refine Ev.ite_neg hq ?_
        rw [decide_eq_true (by omega), Bool.true_and, wrapS i (by omega)]
        exact ih (i + 1) (by omega) (by omega)
    · rw [noninc_end r i (by omega)]
      exact Ev.ite_neg (by omega) (Ev.now _)
theorem dpRow_j0 (r : List Int) (b : Bool) (hl : r.length ≤ 17592186044416) : Ev (fun k => spec_dpRow.j0 k r b) (!b && noninc r 1) := by
  refine Ev.step (fun k => by rw [spec_dpRow.j0]) ?_
  cases b with
  | true => exact Ev.ite_pos rfl (Ev.now _)
  | false => exact Ev.ite_neg (by simp) (dpRow_l0 r hl r.length 1 (by omega) (by omega))
theorem dpRow_ev (r : List Int) (n : Int) (hl : r.length ≤ 17592186044416) : Ev (fun k => spec_dpRow.f k r n) (rowGood n r) := by
  unfold spec_dpRow.f
  by_cases h0 : (r.length : Int) = 0
  · refine Ev.ite_pos h0 ?_
    have : rowGood n r = false := by unfold rowGood; rw [decide_eq_false (by omega)]; rfl
    rw [this]
    exact dpRow_j0 r true hl
  · refine Ev.ite_neg h0 ?_
    by_cases h1 : (r.length : Int) ≥ n
    · refine Ev.ite_pos h1 ?_
      have : rowGood n r = false := by
        cases hg : rowGood n r with
        | false => rfl
        | true => have := (rowGood_facts hg).2.1; omega
      rw [this]
      exact dpRow_j0 r true hl
    · refine Ev.ite_neg h1 (Ev.bind (l1All_ev r 1 n hl) ?_)
      unfold rowGood
      rw [decide_eq_true (show 0 < r.length by omega), Bool.true_and]
      cases h2 : (r.all fun x => inB x 1 n) with
      | false => exact Ev.ite_neg (by simp) (dpRow_j0 r true hl)
      | true =>
        refine Ev.ite_pos rfl (Ev.ite_pos (by omega) ?_)
        have := dpRow_j0 r (decide (rd r 0 ≤ (r.length : Int))) hl
        rw [show (!decide (rd r 0 ≤ (r.length : Int))) = decide ((r.length : Int) < rd r 0) from by by_cases hq : rd r 0 ≤ (r.length : Int) <;> simp [hq] <;> omega] at this
        rw [Bool.true_and]
        exact this
theorem descRow_l0 (r : List Int) (n : Int) (hl : r.length ≤ 17592186044416) : ∀ (d i : Nat), 1 ≤ i → r.length - i ≤ d → Ev (fun k => impl_isDescendedRow.l0 k r n i) (noninc r i && (decide (0 < r.length) && ((r.all fun x => inB x 1 n) && decide ((r.length : Int) < rd r 0)))) := by
  have fin : ∀ i, 1 ≤ i → r.length ≤ i → Ev (fun k => impl_isDescendedRow.l0 k r n i) (noninc r i && (decide (0 < r.length) && ((r.all fun x => inB x 1 n) && decide ((r.length : Int) < rd r 0)))) := by
    intro i h1 hi
    refine Ev.step (fun k => by rw [impl_isDescendedRow.l0]) ?_
    rw [noninc_end r i hi, Bool.true_and]
    refine Ev.ite_neg (by omega) ?_
    by_cases h0 : (r.length : Int) > 0
    · refine Ev.ite_pos h0 (Ev.some_bind rfl ?_)
      rw [decide_eq_true (show 0 < r.length by omega), Bool.true_and]
      cases h2 : (r.all fun x => inB x 1 n) with
      | false => exact Ev.ite_neg (by simp) (Ev.now _)
      | true => exact Ev.ite_pos rfl (Ev.ite_pos (by omega) (Ev.now _))
    · refine Ev.ite_neg h0 ?_
      rw [decide_eq_false (show ¬ 0 < r.length by omega)]
      exact Ev.now _
  intro d
  induction d with
  | zero => intro i h1 hi; exact fin i h1 (by omega)
  | succ d ih =>
    intro i h1 hi
    by_cases hlt : i < r.length
    · refine Ev.step (fun k => by rw [impl_isDescendedRow.l0]) ?_
      rw [wrapP i h1 (by omega), noninc_step r i hlt]
      refine Ev.ite_pos (by omega) (Ev.ite_pos (by omega) (Ev.ite_pos (by omega) (Ev.ite_pos (by omega) ?_)))
      by_cases hq : rd r i > rd r ((i - 1 : Nat) : Int)
      · refine Ev.ite_pos hq ?_
        rw [decide_eq_false (show ¬ rd r i ≤ rd r ((i - 1 : Nat) : Int) by omega)]
        exact Ev.now _
      · refine Ev.ite_neg hq ?_
        rw [decide_eq_true (show rd r i ≤ rd r ((i - 1 : Nat) : Int) by omega), Bool.true_and, wrapS i (by omega)]
        exact ih (i + 1) (by omega) (by omega)
    · exact fin i h1 (by omega)
theorem descRow_ev (r : List Int) (n : Int) (hl : r.length ≤ 17592186044416) : Ev (fun k => impl_isDescendedRow.f k r n) (rowGood n r) := by
  unfold impl_isDescendedRow.f
  have h := descRow_l0 r n hl r.length 1 (by omega) (by omega)
  have e : (noninc r 1 && (decide (0 < r.length) && ((r.all fun x => inB x 1 n) && decide ((r.length : Int) < rd r 0)))) = rowGood n r := by
    unfold rowGood
    cases noninc r 1 <;> cases decide (0 < r.length) <;> cases (r.all fun x => inB x 1 n) <;> simp
  rw [e] at h
  exact h

/-- From place i on each number is less than the one above and to the right. -/
def under (a r : List Int) (i : Nat) : Bool := (List.range' i (r.length - i)).all fun z => decide (rd r z < rd a ((z + 1 : Nat) : Int))
theorem under_end (a r : List Int) (i : Nat) (h : r.length ≤ i) : under a r i = true := by unfold under; rw [show r.length - i = 0 by omega]; rfl
theorem under_step (a r : List Int) (i : Nat) (h : i < r.length) : under a r i = (decide (rd r i < rd a ((i + 1 : Nat) : Int)) && under a r (i + 1)) := by
  unfold under
  obtain ⟨m, hm⟩ : ∃ m, r.length - i = m + 1 := ⟨r.length - i - 1, by omega⟩
  rw [hm, show r.length - (i + 1) = m by omega, List.range'_succ, List.all_cons]
/-- Row r can stand below row a. -/
def belowB (a r : List Int) : Bool := decide (r.length < a.length) && (decide (rd r 0 ≤ (a.length : Int)) && under a r 0)

theorem dpBelow_l0 (a r : List Int) (hl : r.length ≤ 17592186044416) (hlt : r.length < a.length) : ∀ (d i : Nat), i + d = r.length → Ev (fun k => spec_dpBelow.l0 k a r r.length i) (under a r i) := by
  intro d
  induction d with
  | zero =>
    intro i hi
    refine Ev.step (fun k => by rw [spec_dpBelow.l0]) ?_
    rw [under_end a r i (by omega)]
    exact Ev.ite_neg (by omega) (Ev.now _)
  | succ d ih =>
    intro i hi
    refine Ev.step (fun k => by rw [spec_dpBelow.l0]) ?_
    rw [wrapS i (by omega), under_step a r i (by omega)]
    refine Ev.ite_pos (by omega) (Ev.ite_pos (by omega) (Ev.ite_pos (by omega) (Ev.ite_pos (by omega) (Ev.ite_pos (by omega) ?_))))
    by_cases hq : rd r i ≥ rd a ((i + 1 : Nat) : Int)
    · refine Ev.ite_pos hq ?_
      rw [decide_eq_false (by omega)]
      exact Ev.now _
    · refine Ev.ite_neg hq ?_
      rw [decide_eq_true (by omega), Bool.true_and]
      exact ih (i + 1) (by omega)

theorem stands_l0 (a r : List Int) (hl : r.length ≤ 17592186044416) (hlt : r.length < a.length) : ∀ (d i : Nat), i + d = r.length → Ev (fun k => impl_standsBelow.l0 k a r r.length i) (under a r i) := by
  intro d
  induction d with
  | zero =>
    intro i hi
    refine Ev.step (fun k => by rw [impl_standsBelow.l0]) ?_
    rw [under_end a r i (by omega)]
    exact Ev.ite_neg (by omega) (Ev.now _)
  | succ d ih =>
    intro i hi
    refine Ev.step (fun k => by rw [impl_standsBelow.l0]) ?_
    rw [wrapS i (by omega), under_step a r i (by omega)]
    refine Ev.ite_pos (by omega) (Ev.ite_pos (by omega) (Ev.ite_pos (by omega) (Ev.ite_pos (by omega) (Ev.ite_pos (by omega) ?_))))
    by_cases hq : rd r i ≥ rd a ((i + 1 : Nat) : Int)
    · refine Ev.ite_pos hq ?_
      rw [decide_eq_false (by omega)]
      exact Ev.now _
    · refine Ev.ite_neg hq ?_
      rw [decide_eq_true (by omega), Bool.true_and]
      exact ih (i + 1) (by omega)

theorem dpBelow_ev (a r : List Int) (hl : r.length ≤ 17592186044416) (h0 : 0 < r.length) : Ev (fun k => spec_dpBelow.f k r a) (belowB a r) := by
  have j : ∀ b : Bool, (b = false → r.length < a.length) → Ev (fun k => spec_dpBelow.j0 k r a b) (!b && under a r 0) := by
    intro b hb
    refine Ev.step (fun k => by rw [spec_dpBelow.j0]) ?_
    cases b with
    | true => exact Ev.ite_pos rfl (Ev.now _)
    | false => exact Ev.ite_neg (by simp) (dpBelow_l0 a r hl (hb rfl) r.length 0 (by omega))
  unfold spec_dpBelow.f belowB
  by_cases h1 : (r.length : Int) ≥ (a.length : Int)
  · refine Ev.ite_pos h1 ?_
    rw [decide_eq_false (show ¬ r.length < a.length by omega)]
    exact j true (by simp)
  · refine Ev.ite_neg h1 (Ev.ite_pos (by omega) ?_)
    rw [decide_eq_true (show r.length < a.length by omega), Bool.true_and]
    have := j (decide (rd r 0 > (a.length : Int))) (fun _ => by omega)
    rw [show (!decide (rd r 0 > (a.length : Int))) = decide (rd r 0 ≤ (a.length : Int)) from by by_cases hq : rd r 0 ≤ (a.length : Int) <;> simp [hq] <;> omega] at this
    exact this
theorem stands_ev (a r : List Int) (hl : r.length ≤ 17592186044416) (h0 : 0 < r.length) : Ev (fun k => impl_standsBelow.f k a r) (belowB a r) := by
  have j : ∀ b : Bool, (b = false → r.length < a.length) → Ev (fun k => impl_standsBelow.j0 k a r b) (!b && under a r 0) := by
    intro b hb
    refine Ev.step (fun k => by rw [impl_standsBelow.j0]) ?_
    cases b with
    | true => exact Ev.ite_pos rfl (Ev.now _)
    | false => exact Ev.ite_neg (by simp) (stands_l0 a r hl (hb rfl) r.length 0 (by omega))
  unfold impl_standsBelow.f belowB
  refine Ev.ite_pos (by omega) ?_
  by_cases h1 : rd r 0 > (a.length : Int)
  · refine Ev.ite_pos h1 ?_
    rw [decide_eq_false (show ¬ rd r 0 ≤ (a.length : Int) by omega), Bool.false_and, Bool.and_false]
    exact j true (by simp)
  · refine Ev.ite_neg h1 ?_
    rw [decide_eq_true (show rd r 0 ≤ (a.length : Int) by omega), Bool.true_and]
    have := j (decide ((r.length : Int) ≥ (a.length : Int))) (fun h => by have := of_decide_eq_false h; omega)
    rw [show (!decide ((r.length : Int) ≥ (a.length : Int))) = decide (r.length < a.length) from by by_cases hq : r.length < a.length <;> simp [hq] <;> omega] at this
    exact this

/-- From row i on all rows are right. -/
def goodFrom (n : Int) (l : List (List Int)) (i : Nat) : Bool := (List.range' i (l.length - i)).all fun z => rowGood n (l.getD z []) && (decide (z = 0) || belowB (l.getD (z - 1) []) (l.getD z []))
theorem goodFrom_end (n : Int) (l : List (List Int)) (i : Nat) (h : l.length ≤ i) : goodFrom n l i = true := by unfold goodFrom; rw [show l.length - i = 0 by omega]; rfl
theorem goodFrom_step (n : Int) (l : List (List Int)) (i : Nat) (h : i < l.length) : goodFrom n l i = ((rowGood n (l.getD i []) && (decide (i = 0) || belowB (l.getD (i - 1) []) (l.getD i []))) && goodFrom n l (i + 1)) := by
  unfold goodFrom
  obtain ⟨m, hm⟩ : ∃ m, l.length - i = m + 1 := ⟨l.length - i - 1, by omega⟩
  rw [hm, show l.length - (i + 1) = m by omega, List.range'_succ, List.all_cons]
/-- The rows are a descending plane partition for n. -/
def isDesc (n : Int) (l : List (List Int)) : Bool := goodFrom n l 0

theorem specGood_l0 (n : Int) (l : List (List Int)) (hl : rowsOk l) : ∀ (d i : Nat), i + d = l.length → Ev (fun k => spec_dpGood.l0 k l n l l.length i) (goodFrom n l i) := by
  have hl1 := hl.1
  intro d
  induction d with
  | zero =>
    intro i hi
    refine Ev.step (fun k => by rw [spec_dpGood.l0]) ?_
    rw [goodFrom_end n l i (by omega)]
    exact Ev.ite_neg (by omega) (Ev.now _)
  | succ d ih =>
    intro i hi
    refine Ev.step (fun k => by rw [spec_dpGood.l0]) ?_
    rw [goodFrom_step n l i (by omega), wrapS i (by omega), rd1_get]
    refine Ev.ite_pos (by omega) (Ev.ite_pos (by omega) (Ev.ite_pos (by omega) (Ev.bind (dpRow_ev (l.getD i []) n (hl.at_ i)) ?_)))
    cases hg : rowGood n (l.getD i []) with
    | false => exact Ev.ite_neg (by simp) (Ev.now _)
    | true =>
      refine Ev.ite_pos rfl ?_
      by_cases h0 : i = 0
      · subst h0
        refine Ev.ite_neg (by omega) ?_
        simp only [decide_true, Bool.true_or, Bool.true_and]
        exact ih (0 + 1) (by omega)
      · refine Ev.ite_pos (by omega) ?_
        rw [wrapP i (by omega) (by omega), rd1_get]
        refine Ev.ite_pos (by omega) (Ev.ite_pos (by omega) (Ev.bind (dpBelow_ev (l.getD (i - 1) []) (l.getD i []) (hl.at_ i) (rowGood_facts hg).1) ?_))
        rw [decide_eq_false h0, Bool.false_or, Bool.true_and]
        cases hb : belowB (l.getD (i - 1) []) (l.getD i []) with
        | false => exact Ev.ite_neg (by simp) (Ev.now _)
        | true =>
          refine Ev.ite_pos rfl ?_
          rw [Bool.true_and]
          exact ih (i + 1) (by omega)

theorem implGood_l0 (n : Int) (l : List (List Int)) (hl : rowsOk l) : ∀ (d i : Nat), i + d = l.length → Ev (fun k => impl_isDescending.l0 k l n l l.length i) (goodFrom n l i) := by
  have hl1 := hl.1
  intro d
  induction d with
  | zero =>
    intro i hi
    refine Ev.step (fun k => by rw [impl_isDescending.l0]) ?_
    rw [goodFrom_end n l i (by omega)]
    exact Ev.ite_neg (by omega) (Ev.now _)
  | succ d ih =>
    intro i hi
    refine Ev.step (fun k => by rw [impl_isDescending.l0]) ?_
    rw [goodFrom_step n l i (by omega), wrapS i (by omega), rd1_get]
    refine Ev.ite_pos (by omega) (Ev.ite_pos (by omega) (Ev.ite_pos (by omega) (Ev.bind (descRow_ev (l.getD i []) n (hl.at_ i)) ?_)))
    cases hg : rowGood n (l.getD i []) with
    | false => exact Ev.ite_neg (by simp) (Ev.now _)
    | true =>
      refine Ev.ite_pos rfl ?_
      by_cases h0 : i = 0
      · subst h0
        refine Ev.ite_neg (by omega) ?_
        simp only [decide_true, Bool.true_or, Bool.true_and]
        exact ih (0 + 1) (by omega)
      · refine Ev.ite_pos (by omega) ?_
        rw [wrapP i (by omega) (by omega), rd1_get]
        refine Ev.ite_pos (by omega) (Ev.ite_pos (by omega) (Ev.bind (stands_ev (l.getD (i - 1) []) (l.getD i []) (hl.at_ i) (rowGood_facts hg).1) ?_))
        rw [decide_eq_false h0, Bool.false_or, Bool.true_and]
        cases hb : belowB (l.getD (i - 1) []) (l.getD i []) with
        | false => exact Ev.ite_neg (by simp) (Ev.now _)
        | true =>
          refine Ev.ite_pos rfl ?_
          rw [Bool.true_and]
          exact ih (i + 1) (by omega)

theorem impl_isDesc_ev (n : Int) (l : List (List Int)) (hl : rowsOk l) : Ev (fun k => impl_isDescending.f k l n) (isDesc n l) := implGood_l0 n l hl l.length 0 (by omega)
theorem goodFrom_short (n : Int) (l : List (List Int)) : ∀ (d i : Nat), i + d = l.length → 1 ≤ i → 1 ≤ (l.getD (i - 1) []).length → ((l.getD (i - 1) []).length : Int) + i ≤ n → goodFrom n l i = true → (l.length : Int) ≤ n := by
  intro d
  induction d with
  | zero => intro i hi _ h1 h2 _; omega
  | succ d ih =>
    intro i hi h1 h2 h3 hg
    rw [goodFrom_step n l i (by omega), Bool.and_eq_true, Bool.and_eq_true, decide_eq_false (by omega), Bool.false_or] at hg
    obtain ⟨⟨hr, hb⟩, hg⟩ := hg
    have hp := (rowGood_facts hr).1
    simp only [belowB, Bool.and_eq_true] at hb
    have hlen := of_decide_eq_true hb.1
    exact ih (i + 1) (by omega) (by omega) (by rw [Nat.add_sub_cancel]; omega) (by rw [Nat.add_sub_cancel]; omega) hg
theorem isDesc_short (n : Int) (l : List (List Int)) (hn : 0 ≤ n) (h : isDesc n l = true) : (l.length : Int) ≤ n := by
  unfold isDesc at h
  rcases Nat.eq_zero_or_pos l.length with h0 | h0
  · omega
  · rw [goodFrom_step n l 0 h0, Bool.and_eq_true, Bool.and_eq_true] at h
    obtain ⟨⟨hr, _⟩, hg⟩ := h
    have hf := rowGood_facts hr
    exact goodFrom_short n l (l.length - 1) 1 (by omega) (by omega) hf.1 (by rw [Nat.sub_self]; omega) hg
theorem spec_isDesc_ev (n : Int) (l : List (List Int)) (hl : rowsOk l) (hn : 0 ≤ n) : Ev (fun k => spec_dpGood.f k l n) (isDesc n l) := by
  unfold spec_dpGood.f
  by_cases h : (l.length : Int) > n
  · refine Ev.ite_pos h ?_
    have : isDesc n l = false := by
      cases hd : isDesc n l with
      | false => rfl
      | true => have := isDesc_short n l hn hd; omega
    rw [this]
    exact Ev.now _
  · exact Ev.ite_neg h (specGood_l0 n l hl l.length 0 (by omega))

end Go.Proofs.Ytdcdkckpmkfjdaa.L

-- Written by a program of this session (wip/mkprint.py): out of the translation; Lean checks it.
namespace Go.Proofs.Ytdcdkckpmkfjdaa.P
open Go.RowKit Go.Proofs.YtdcdkckpmkfjdaaW.PrintWords Go.Proofs.YtdcdkckpmkfjdaaW.PrintLast Go.Proofs.YtdcdkckpmkfjdaaW.PrintMore
attribute [local go_sem] max2_int min2_int max_two min_two max_three min_three max_four min_four   -- for this text's walks alone
set_option linter.unusedVariables false
set_option linter.unusedSimpArgs false

/-! ### spec_weRows: function 142 -/
mutual
def spec_weRows.l0 : Nat → List Int → List Int → Int → List (List Int) → Int → Option ((List (List Int)))
  | 0, _, _, _, _, _ => none
  | k + 1, x0, x1, x2, x7, x8 => if x8 ≤ 1 then ((spec_l1In.f (wrap64 (x2 + x8)) 0 1).bind fun t113 => (if t113 = true then (if 0 ≤ (x1.length : Int) then (if (x1.length : Int) < (x0.length : Int) then ((spec_l1In.f (wrap64 ((rd x0 (x1.length : Int)) + x8)) 0 1).bind fun t115 => (spec_weRows.j1 k x0 x1 x2 x7 x8 t115)) else (none)) else (none)) else (spec_weRows.j1 k x0 x1 x2 x7 x8 false))) else (some x7)
def spec_weRows.j1 : Nat → List Int → List Int → Int → List (List Int) → Int → Bool → Option ((List (List Int)))
  | 0, _, _, _, _, _, _ => none
  | k + 1, x0, x1, x2, x7, x8, x35 => if x35 = true then ((spec_l1Own.f x1).bind fun t116 => (if t116.length < 17592186044416 then ((spec_weRows.f k x0 (t116 ++ [x8]) (wrap64 (x2 + x8))).bind fun t122 => (if x7.length + t122.length < 5864062014805 then (spec_weRows.l0 k x0 x1 x2 (x7 ++ t122) (wrap64 (x8 + 1))) else (none))) else (none))) else (spec_weRows.l0 k x0 x1 x2 x7 (wrap64 (x8 + 1)))
def spec_weRows.f : Nat → List Int → List Int → Int → Option ((List (List Int)))
  | 0, _, _, _ => none
  | k + 1, l0, l1, a2 => if (l1.length : Int) = (l0.length : Int) then (if a2 = 1 then (some (([l1] : List (List Int)))) else (some ([] : List (List Int)))) else (spec_weRows.l0 k l0 l1 a2 ([] : List (List Int)) (-1))
end
theorem spec_weRows.mono_l : ∀ k, (∀ y0 y1 y2, LeO (spec_weRows.f k y0 y1 y2) (spec_weRows.f (k + 1) y0 y1 y2)) ∧ (∀ y0 y1 y2 y3 y4, LeO (spec_weRows.l0 k y0 y1 y2 y3 y4) (spec_weRows.l0 (k + 1) y0 y1 y2 y3 y4)) ∧ (∀ y0 y1 y2 y3 y4 y5, LeO (spec_weRows.j1 k y0 y1 y2 y3 y4 y5) (spec_weRows.j1 (k + 1) y0 y1 y2 y3 y4 y5))
  | 0 => ⟨fun _ _ _ r h => by simp [spec_weRows.f] at h, fun _ _ _ _ _ r h => by simp [spec_weRows.l0] at h, fun _ _ _ _ _ _ r h => by simp [spec_weRows.j1] at h⟩
  | k + 1 => by
    obtain ⟨ih0, ih1, ih2⟩ := spec_weRows.mono_l k
    refine ⟨?_, ?_, ?_⟩
    · intro y0 y1 y2
      unfold spec_weRows.f
      repeat' first
      | (with_reducible exact ih0 _ _ _)
      | (with_reducible exact ih1 _ _ _ _ _)
      | (with_reducible exact ih2 _ _ _ _ _ _)
      | (with_reducible exact LeO.refl _)
      | (with_reducible exact LeO.none _)
      | (with_reducible refine LeO.ite ?_ ?_)
      | (with_reducible refine LeO.bind ?_ (fun _ => ?_))
      | exact ih0 _ _ _
      | exact ih1 _ _ _ _ _
      | exact ih2 _ _ _ _ _ _
      | exact LeO.none _
      | refine LeO.ite ?_ ?_
      | refine LeO.bind ?_ (fun _ => ?_)
    · intro y0 y1 y2 y3 y4
      unfold spec_weRows.l0
      repeat' first
      | (with_reducible exact ih0 _ _ _)
      | (with_reducible exact ih1 _ _ _ _ _)
      | (with_reducible exact ih2 _ _ _ _ _ _)
      | (with_reducible exact LeO.refl _)
      | (with_reducible exact LeO.none _)
      | (with_reducible refine LeO.ite ?_ ?_)
      | (with_reducible refine LeO.bind ?_ (fun _ => ?_))
      | exact ih0 _ _ _
      | exact ih1 _ _ _ _ _
      | exact ih2 _ _ _ _ _ _
      | exact LeO.none _
      | refine LeO.ite ?_ ?_
      | refine LeO.bind ?_ (fun _ => ?_)
    · intro y0 y1 y2 y3 y4 y5
      unfold spec_weRows.j1
      repeat' first
      | (with_reducible exact ih0 _ _ _)
      | (with_reducible exact ih1 _ _ _ _ _)
      | (with_reducible exact ih2 _ _ _ _ _ _)
      | (with_reducible exact LeO.refl _)
      | (with_reducible exact LeO.none _)
      | (with_reducible refine LeO.ite ?_ ?_)
      | (with_reducible refine LeO.bind ?_ (fun _ => ?_))
      | exact ih0 _ _ _
      | exact ih1 _ _ _ _ _
      | exact ih2 _ _ _ _ _ _
      | exact LeO.none _
      | refine LeO.ite ?_ ?_
      | refine LeO.bind ?_ (fun _ => ?_)
theorem spec_weRows.mono : ∀ a0 a1 a2 k, LeO (spec_weRows.f k a0 a1 a2) (spec_weRows.f (k + 1) a0 a1 a2) := by
  intro a0 a1 a2 k
  obtain ⟨ih0, ih1, ih2⟩ := spec_weRows.mono_l k
  exact ih0 a0 a1 a2
set_option maxHeartbeats 8000000 in
set_option maxRecDepth 100000 in
theorem spec_weRows.calls (k : Nat) : ∀ (A0 : Option Addr) (c0 : Nat) (l0 : List Int) (P1_ : Nat → Prop) (A1 : Option Addr) (c1 : Nat) (l1 : List Int) (a2 : Int) (r : List (List Int)) (w : World) (hr0 : Kd.C (Kd.int .i64) w A0 l0.length l0) (hc0 : l0.length ≤ c0) (hs1 : Kd.V (Kd.int .i64) 3 w w.heap.size (fun k_ => P1_ k_) (.slice A1 l1.length c1) l1) (h : spec_weRows.f k l0 l1 a2 = some r),
    Calls Try.prog 142 #[.slice A0 l0.length c0, .slice A1 l1.length c1, .int .i64 a2] w fun e w' => ∃ v0_ : Value, e = .returned (v0_) ∧ Kd.N (Kd.slice 3 (Kd.int .i64)) 22 w' w.heap.size (fun k_ => (P1_ k_ ∨ w.heap.size ≤ k_)) v0_ r ∧ Below w.heap.size w w' := by
  induction k using Nat.strongRecOn with
  | _ k ih =>
  intro A0 c0 l0 P1_ A1 c1 l1 a2 r w hr0 hc0 hs1 h
  cases k with
  | zero => exact absurd h (by simp [spec_weRows.f])
  | succ k =>
  simp only [spec_weRows.f] at h
  have HR0 := Aside0.mk hr0
  have HC0 := Aside0.mk hc0
  clear hr0 hc0
  have HO1 := Aside0.mk (show Kd.V (Kd.int .i64) 3 w w.heap.size (fun k_ => (P1_ k_ ∨ w.heap.size ≤ k_)) (.slice A1 l1.length c1) l1 from Kd.V_mono hs1 (fun k_ hk => .inl hk))
  have HB := Aside0.mk (Below.refl w.heap.size w)
  have H : (if (l1.length : Int) = (l0.length : Int) then (if a2 = 1 then (some (([l1] : List (List Int)))) else (some ([] : List (List Int)))) else (spec_weRows.l0 k l0 l1 a2 ([] : List (List Int)) (-1))) = some r := h
  clear h
  by_cases c4 : (l1.length : Int) = (l0.length : Int)
  · rw [if_pos c4] at H
    have c4b0 : ((l1.length : Int) == (l0.length : Int)) = true := beq_iff_eq.mpr c4
    have c4b1 : ((l1.length : Int) != (l0.length : Int)) = false := bne_eq_false_iff_eq.mpr c4
    have c4b2 : (l1.length == l0.length) = true := by first | simpa using c4 | (simp at c4 ⊢; omega)
    clear c4
    by_cases c5 : a2 = 1
    · rw [if_pos c5] at H
      have c5b0 : (a2 == 1) = true := beq_iff_eq.mpr c5
      have c5b1 : (a2 != 1) = false := bne_eq_false_iff_eq.mpr c5
      clear c5
      obtain ⟨y110, hy110⟩ : ∃ y_ : List (List Int), y_ = (([l1] : List (List Int))) := ⟨_, rfl⟩
      replace H : (some y110) = some r := by first | (rw [hy110]; with_reducible exact H) | (have H2_ := (Option.bind_some _ _).symm.trans H; rw [hy110]; with_reducible exact H2_) | (have H2_ := (Option.bind_some _ _).symm.trans H; with_reducible exact H2_) | with_reducible exact H | (rw [hy110]; exact H) | exact H
      have Ny110 := Aside0.mk hy110
      clear hy110
      obtain rfl := Option.some.inj H
      go_enter Try.func142, Try.ntmps142
      go_wp2_with (first | ((with_reducible refine gate_dst (N := 17) rfl ?_); (try (refine gate_guard (by rfl) ?_; dsimp only)); refine Kd.N_lit (Kd.slice 3 (Kd.int .i64)) _ 22 ?hg (N' := 17) ?hd (xs := ([l1] : List (List Int))) (inner := [.slice A1 l1.length c1]) (ok := (fun k_ => (P1_ k_ ∨ w.heap.size ≤ k_))) (okp := (fun k_ => (P1_ k_ ∨ w.heap.size ≤ k_))) ?hr ?hp (fun _ hk => hk) ((show ∀ k_, w.heap.size ≤ k_ → (fun k_ => (P1_ k_ ∨ w.heap.size ≤ k_)) k_ from fun k_ hk => (.inr (Nat.le_trans (below_size (by repeat (first | (with_reducible first | exact HB.out | apply below_alloc | apply pw_below_drewN | apply below_drew1) | exact HB.out))) hk))) _ (Nat.le_refl _)) (Below.refl _ _) (Nat.le_refl _) (by simp) ?_; (case hd => rfl); (case hg => rfl); (case hr => first | (go_simp; done) | (go_simp; rfl)); (case hp => exact (Reps.one (show Kd.FK (Kd.slice 3 (Kd.int .i64)) _ _ l1 [.slice A1 l1.length c1] from (Kd.FK_slice_mk (Kd.V_reads' (Kd.V_mono (ok' := (fun k_ => (P1_ k_ ∨ w.heap.size ≤ k_))) (HO1.out) (fun k_ hk => hk))).2.1 (Kd.V_F (Kd.V_mono (ok' := (fun k_ => (P1_ k_ ∨ w.heap.size ≤ k_))) (HO1.out) (fun k_ hk => hk))))) (Reps.none _ _))); intro v111 w6 ho7 hb hg_ hnew_; clear hg_ hnew_; (first | rw [← Ny110.out] at ho7 | (simp only [Int.reduceToNat] at ho7; rw [← Ny110.out] at ho7)); have n0_ := Aside0.mk (Kd.V_elder' (by (with_reducible repeat (first | apply Kd.V_alloc | apply Kd.V_drewN | apply Kd.V_drew)); exact HO1.out) (Kd.N_base ho7) hb); have n1_ := Aside0.mk (Kd.N_lower ho7 (below_size (by repeat (first | (with_reducible first | exact HB.out | apply below_alloc | apply pw_below_drewN | apply below_drew1) | exact HB.out)))); have n2_ := Aside0.mk (below_step (by repeat (first | (with_reducible first | exact HB.out | apply below_alloc | apply pw_below_drewN | apply below_drew1) | exact HB.out)) hb); clear HO1; clear HB; have HO1 := n0_; have HO112 := n1_; have HB := n2_; clear n0_ n1_ n2_; clear hb ho7))
      go_ret
      exact ⟨_, by first | rfl | (simp [errW_none, errW_some] <;> rfl) | (simp [*, errW_none, errW_some] <;> rfl), by (with_reducible repeat (first | apply Kd.N_alloc | apply Kd.N_drewN | apply Kd.N_drew)); exact HO112.out, by repeat (first | (with_reducible first | exact HB.out | apply below_alloc | apply pw_below_drewN | apply below_drew1) | exact HB.out)⟩
    · rw [if_neg c5] at H
      have c5b0 : (a2 == 1) = false := beq_eq_false_iff_ne.mpr c5
      have c5b1 : (a2 != 1) = true := bne_iff_ne.mpr c5
      obtain rfl := Option.some.inj H
      go_enter Try.func142, Try.ntmps142
      go_wp2
      go_ret
      exact ⟨_, by first | rfl | (simp [errW_none, errW_some] <;> rfl) | (simp [*, errW_none, errW_some] <;> rfl), by first | exact Kd.S_nil _ _ _ _ _ | exact Kd.N_nil _ _ _ _ _ | exact Kd.V_nil _ _ _ _ _ | exact Kd.Q_nil _ _ _ _ _ | exact Kd.R_nil _ _ _ _ _, by repeat (first | (with_reducible first | exact HB.out | apply below_alloc | apply pw_below_drewN | apply below_drew1) | exact HB.out)⟩
  · rw [if_neg c4] at H
    have c4b0 : ((l1.length : Int) == (l0.length : Int)) = false := beq_eq_false_iff_ne.mpr c4
    have c4b1 : ((l1.length : Int) != (l0.length : Int)) = true := bne_iff_ne.mpr c4
    have c4b2 : (l1.length == l0.length) = false := by first | simpa using c4 | (simp at c4 ⊢; omega)
    have H' := Aside0.mk H
    clear H
    go_enter Try.func142, Try.ntmps142
    go_wp2
    go_loopg [7, 8] k (fun kq v7 v8 w' => ∃ (x7_1 : List (List Int)) (x8_1 : Int), v8 = .int .i64 x8_1 ∧ Aside0 (spec_weRows.l0 kq l0 l1 a2 x7_1 x8_1 = some r) ∧ Aside0 (kq ≤ k) ∧ Aside0 (Kd.V (Kd.int .i64) 3 w' w.heap.size (fun k_ => (P1_ k_ ∨ w.heap.size ≤ k_) ∧ some k_ ≠ (v7 : Value).ownBlock) (.slice A1 l1.length c1) l1) ∧ Aside0 (Kd.N (Kd.slice 3 (Kd.int .i64)) 22 w' w.heap.size (fun k_ => (P1_ k_ ∨ w.heap.size ≤ k_)) v7 x7_1) ∧ Aside0 (Below w.heap.size w w'))
    case atStart => exact ⟨(([] : List (List Int))), ((-1)), (by first | rfl | (simp; done) | (simp [*]; done)), H', ⟨Nat.le_refl _⟩, ⟨by (with_reducible repeat (first | apply Kd.V_alloc | apply Kd.V_drewN | apply Kd.V_drew)); exact Kd.V_mono HO1.out (fun _ hk => ⟨hk, (by simp [Value.ownBlock])⟩)⟩, ⟨by first | exact Kd.S_nil _ _ _ _ _ | exact Kd.N_nil _ _ _ _ _ | exact Kd.V_nil _ _ _ _ _ | exact Kd.Q_nil _ _ _ _ _ | exact Kd.R_nil _ _ _ _ _⟩, ⟨by repeat (first | (with_reducible first | exact HB.out | apply below_alloc | apply pw_below_drewN | apply below_drew1) | exact HB.out)⟩⟩
    case round =>
      clear H'
      try clear c1
      try clear p2
      try clear c4
      try clear c4b0
      try clear c4b1
      try clear c4b2
      try clear c5
      try clear c5b0
      try clear c5b1
      obtain ⟨x7_1, x8_1, rfl, HA, HK1, HO_1, HO_7, HB⟩ := hrel
      cases gk with
      | zero => exact absurd HA.out (by simp [spec_weRows.l0])
      | succ k1 =>
        have H := HA.out
        clear HA
        simp only [spec_weRows.l0] at H
        by_cases c8 : x8_1 ≤ 1
        · rw [if_pos c8] at H
          have c8b0 : decide (x8_1 ≤ 1) = true := decide_eq_true c8
          clear c8
          have HC9 := Aside0.mk H
          clear H
          go_upto_region 9 with (fail)
          go_cut [35] (fun v35 wc => ∃ (kq : Nat) (x35_8 : Bool), v35 = .bool x35_8 ∧ Aside0 (spec_weRows.j1 kq l0 l1 a2 x7_1 x8_1 x35_8 = some r) ∧ Aside0 (kq ≤ k1) ∧ Aside0 (Kd.V (Kd.int .i64) 3 wc w.heap.size (fun k_ => (P1_ k_ ∨ w.heap.size ≤ k_) ∧ some k_ ≠ (u7 : Value).ownBlock) (.slice A1 l1.length c1) l1) ∧ Aside0 (Kd.N (Kd.slice 3 (Kd.int .i64)) 22 wc w.heap.size (fun k_ => (P1_ k_ ∨ w.heap.size ≤ k_)) u7 x7_1) ∧ Aside0 (Below w.heap.size w wc))
          case first =>
            have H := HC9.out
            clear HC9
            replace H := Option.bind_eq_some_iff.mp H
            obtain ⟨t113, A100, H⟩ := H
            replace H : (if t113 = true then (if 0 ≤ (l1.length : Int) then (if (l1.length : Int) < (l0.length : Int) then ((spec_l1In.f (wrap64 ((rd l0 (l1.length : Int)) + x8_1)) 0 1).bind fun t115 => (spec_weRows.j1 k1 l0 l1 a2 x7_1 x8_1 t115)) else (none)) else (none)) else (spec_weRows.j1 k1 l0 l1 a2 x7_1 x8_1 false)) = some r := H
            have A10 := Aside0.mk A100
            clear A100
            by_cases c11 : t113 = true
            · subst c11
              have H1 : (if 0 ≤ (l1.length : Int) then (if (l1.length : Int) < (l0.length : Int) then ((spec_l1In.f (wrap64 ((rd l0 (l1.length : Int)) + x8_1)) 0 1).bind fun t115 => (spec_weRows.j1 k1 l0 l1 a2 x7_1 x8_1 t115)) else (none)) else (none)) = some r := by rw [if_pos rfl] at H; exact H
              clear H
              have H := H1
              clear H1
              by_cases c12 : 0 ≤ (l1.length : Int)
              · rw [if_pos c12] at H
                have c12b0 : decide (0 ≤ (l1.length : Int)) = true := decide_eq_true c12
                have c12b1 : decide (0 ≤ l1.length) = true := decide_eq_true (by omega)
                clear c12
                (try rw [c12b1])
                (first | rw [c12b0] | (simp only [i64_w, i32_w]; rw [c12b0]) | skip)
                by_cases c13 : (l1.length : Int) < (l0.length : Int)
                · rw [if_pos c13] at H
                  have c13b0 : decide ((l1.length : Int) < (l0.length : Int)) = true := decide_eq_true c13
                  have c13b1 : decide (l1.length < l0.length) = true := decide_eq_true (Int.ofNat_lt.mp c13)
                  clear c13
                  replace H := Option.bind_eq_some_iff.mp H
                  obtain ⟨t115, A140, H⟩ := H
                  replace H : (spec_weRows.j1 k1 l0 l1 a2 x7_1 x8_1 t115) = some r := H
                  have A14 := Aside0.mk A140
                  clear A140
                  have H' := Aside0.mk H
                  clear H
                  go_wp2_with (first | ((with_reducible refine gate_callee (f := 99) rfl ?_); refine goesL_ (some 25) rfl rfl Try.func99 (by kernel_rfl) rfl #[.int .i64 (wrap64 (a2 + x8_1)), .int .i64 0, .int .i64 1] rfl (by (try simp only [List.map_toArray, List.map_cons, List.map_nil]); first | done | rfl | (simp only [List.length_drop, List.length_take]; rfl)) ?_; (with_reducible refine (spec_l1In.calls (wrap64 (a2 + x8_1)) 0 1 true _ A10.out).mono ?_); rintro e w' ⟨rfl, ⟨nd, rfl⟩⟩; refine ⟨_, rfl, ?_⟩; have p114 : 0 ≤ ((l1.length : Int) : Int) := of_decide_eq_true (by first | (with_reducible assumption) | assumption); have q114 : (l1.length : Int) < (l0.length : Int) := of_decide_eq_true (by first | (with_reducible assumption) | assumption); obtain ⟨ad114, e114, hx114_0⟩ := Kd.at_int HR0.out (l1.length : Int) p114 q114; cases e114; (try replace hx114_0 := (HB.out.cell (World.block_lt_of_cell? w _ hx114_0)).trans hx114_0); (try simp only [Go.IntWalk.toNatUp] at hx114_0); replace p114 := eq_true p114; replace q114 := eq_true q114) | (go_at_call 99; (with_reducible refine (spec_l1In.calls (wrap64 ((rd l0 (l1.length : Int)) + x8_1)) 0 1 t115 _ A14.out).mono ?_); rintro e w' ⟨rfl, ⟨nd, rfl⟩⟩))
                  go_meet
                  case rel => exact ⟨_, (t115), (by first | rfl | (simp; done) | (simp [*]; done)), H', ⟨by have := HK1.out; first | omega | exact Nat.le_refl _⟩, ⟨by (with_reducible repeat (first | apply Kd.V_alloc | apply Kd.V_drewN | apply Kd.V_drew)); exact HO_1.out⟩, ⟨by (with_reducible repeat (first | apply Kd.N_alloc | apply Kd.N_drewN | apply Kd.N_drew)); exact HO_7.out⟩, ⟨by repeat (first | (with_reducible first | exact HB.out | apply below_alloc | apply pw_below_drewN | apply below_drew1) | exact HB.out)⟩⟩
                · rw [if_neg c13] at H
                  exact absurd H (by simp)
              · rw [if_neg c12] at H
                exact absurd H (by simp)
            · replace c11 := Bool.eq_false_iff.mpr c11
              subst c11
              have H1 : (spec_weRows.j1 k1 l0 l1 a2 x7_1 x8_1 false) = some r := by rw [if_neg (show ¬ (false = true) by decide)] at H; exact H
              clear H
              have H := H1
              clear H1
              have H' := Aside0.mk H
              clear H
              go_wp2_with (first | ((with_reducible refine gate_callee (f := 99) rfl ?_); refine goesL_ (some 25) rfl rfl Try.func99 (by kernel_rfl) rfl #[.int .i64 (wrap64 (a2 + x8_1)), .int .i64 0, .int .i64 1] rfl (by (try simp only [List.map_toArray, List.map_cons, List.map_nil]); first | done | rfl | (simp only [List.length_drop, List.length_take]; rfl)) ?_; (with_reducible refine (spec_l1In.calls (wrap64 (a2 + x8_1)) 0 1 false _ A10.out).mono ?_); rintro e w' ⟨rfl, ⟨nd, rfl⟩⟩; refine ⟨_, rfl, ?_⟩))
              go_meet
              case rel => exact ⟨_, (false), (by first | rfl | (simp; done) | (simp [*]; done)), H', ⟨by have := HK1.out; first | omega | exact Nat.le_refl _⟩, ⟨by (with_reducible repeat (first | apply Kd.V_alloc | apply Kd.V_drewN | apply Kd.V_drew)); exact HO_1.out⟩, ⟨by (with_reducible repeat (first | apply Kd.N_alloc | apply Kd.N_drewN | apply Kd.N_drew)); exact HO_7.out⟩, ⟨by repeat (first | (with_reducible first | exact HB.out | apply below_alloc | apply pw_below_drewN | apply below_drew1) | exact HB.out)⟩⟩
          case rest =>
            clear HC9
            try clear c1
            try clear p1
            try clear q1
            try clear hx1
            try clear p2
            try clear c4
            try clear c4b0
            try clear c4b1
            try clear c4b2
            try clear c5
            try clear c5b0
            try clear c5b1
            try clear p6
            try clear c8
            try clear c8b0
            try clear c9
            try clear c11
            try clear p11
            try clear q11
            try clear hx11
            try clear c12
            try clear c12b0
            try clear c12b1
            try clear c13
            try clear c13b0
            try clear c13b1
            try clear c14
            try clear hx114_0
            try clear p114
            try clear p2
            try clear q114
            obtain ⟨kq, x35_8, rfl, HA, HJ8, HO_1, HO_7, HB⟩ := hcut
            cases kq with
            | zero => exact absurd HA.out (by simp [spec_weRows.j1])
            | succ kj8 =>
              have H := HA.out
              clear HA
              simp only [spec_weRows.j1] at H
              by_cases c15 : x35_8 = true
              · subst c15
                have H1 : ((spec_l1Own.f l1).bind fun t116 => (if t116.length < 17592186044416 then ((spec_weRows.f kj8 l0 (t116 ++ [x8_1]) (wrap64 (a2 + x8_1))).bind fun t122 => (if x7_1.length + t122.length < 5864062014805 then (spec_weRows.l0 kj8 l0 l1 a2 (x7_1 ++ t122) (wrap64 (x8_1 + 1))) else (none))) else (none))) = some r := by rw [if_pos rfl] at H; exact H
                clear H
                have H := H1
                clear H1
                replace H := Option.bind_eq_some_iff.mp H
                obtain ⟨t116, A160, H⟩ := H
                replace H : (if t116.length < 17592186044416 then ((spec_weRows.f kj8 l0 (t116 ++ [x8_1]) (wrap64 (a2 + x8_1))).bind fun t122 => (if x7_1.length + t122.length < 5864062014805 then (spec_weRows.l0 kj8 l0 l1 a2 (x7_1 ++ t122) (wrap64 (x8_1 + 1))) else (none))) else (none)) = some r := H
                have A16 := Aside0.mk A160
                clear A160
                by_cases c17 : t116.length < 17592186044416
                · rw [if_pos c17] at H
                  have LMc17 := Aside0.mk c17
                  clear c17
                  obtain ⟨y119, hy119⟩ : ∃ y_ : List Int, y_ = (t116 ++ [x8_1]) := ⟨_, rfl⟩
                  replace H : ((spec_weRows.f kj8 l0 y119 (wrap64 (a2 + x8_1))).bind fun t122 => (if x7_1.length + t122.length < 5864062014805 then (spec_weRows.l0 kj8 l0 l1 a2 (x7_1 ++ t122) (wrap64 (x8_1 + 1))) else (none))) = some r := by first | (rw [hy119]; with_reducible exact H) | (have H2_ := (Option.bind_some _ _).symm.trans H; rw [hy119]; with_reducible exact H2_) | (have H2_ := (Option.bind_some _ _).symm.trans H; with_reducible exact H2_) | with_reducible exact H | (rw [hy119]; exact H) | exact H
                  have Ny119 := Aside0.mk hy119
                  clear hy119
                  replace H := Option.bind_eq_some_iff.mp H
                  obtain ⟨t122, A180, H⟩ := H
                  replace H : (if x7_1.length + t122.length < 5864062014805 then (spec_weRows.l0 kj8 l0 l1 a2 (x7_1 ++ t122) (wrap64 (x8_1 + 1))) else (none)) = some r := H
                  have A18 := Aside0.mk A180
                  clear A180
                  by_cases c19 : x7_1.length + t122.length < 5864062014805
                  · rw [if_pos c19] at H
                    have LMc19 := Aside0.mk c19
                    clear c19
                    obtain ⟨y125, hy125⟩ : ∃ y_ : List (List Int), y_ = (x7_1 ++ t122) := ⟨_, rfl⟩
                    replace H : (spec_weRows.l0 kj8 l0 l1 a2 y125 (wrap64 (x8_1 + 1))) = some r := by first | (rw [hy125]; with_reducible exact H) | (have H2_ := (Option.bind_some _ _).symm.trans H; rw [hy125]; with_reducible exact H2_) | (have H2_ := (Option.bind_some _ _).symm.trans H; with_reducible exact H2_) | with_reducible exact H | (rw [hy125]; exact H) | exact H
                    have Ny125 := Aside0.mk hy125
                    clear hy125
                    have H' := Aside0.mk H
                    clear H
                    go_wp2_with (first | ((with_reducible refine gate_callee (f := 110) rfl ?_); refine goesL_ (some 39) rfl rfl Try.func110 (by kernel_rfl) rfl #[.slice A1 l1.length c1] rfl (by (try simp only [List.map_toArray, List.map_cons, List.map_nil]); first | done | rfl | (simp only [List.length_drop, List.length_take]; rfl)) ?_; (with_reducible refine (spec_l1Own.calls _ _ l1 t116 _ ?side1 ?side2 A16.out).mono ?_); (case side1 => repeat (first | exact (Kd.V_reads' HO_1.out).2.2 | (with_reducible refine Kd.C_alloc ?_ _) | (with_reducible refine Kd.C_drewN ?_ _) | (with_reducible refine Kd.C_drew ?_))); (case side2 => exact (Kd.V_reads' HO_1.out).2.1); rintro e w20 ⟨v117, rfl, ho0, hb⟩; refine ⟨_, rfl, ?_⟩; have n0_ := Aside0.mk (Kd.V_elder' (by (with_reducible repeat (first | apply Kd.V_alloc | apply Kd.V_drewN | apply Kd.V_drew)); exact HO_1.out) (Kd.R_base ho0) hb); have n1_ := Aside0.mk (Kd.N_elder' (by (with_reducible repeat (first | apply Kd.N_alloc | apply Kd.N_drewN | apply Kd.N_drew)); exact HO_7.out) (Kd.R_base ho0) hb); have n2_ := Aside0.mk (Kd.R_lower (Kd.R_newM (M := fun k_ => (w.heap.size ≤ k_)) ho0 (below_size (by repeat (first | (with_reducible first | exact HB.out | apply below_alloc | apply pw_below_drewN | apply below_drew1) | exact HB.out))) (fun k_ h_ => h_)) (below_size (by repeat (first | (with_reducible first | exact HB.out | apply below_alloc | apply pw_below_drewN | apply below_drew1) | exact HB.out)))); have n3_ := Aside0.mk (below_step (by repeat (first | (with_reducible first | exact HB.out | apply below_alloc | apply pw_below_drewN | apply below_drew1) | exact HB.out)) hb); clear HO_1; clear HO_7; clear HB; have HO_1 := n0_; have HO_7 := n1_; have HO118 := n2_; have HB := n3_; clear n0_ n1_ n2_ n3_; (try clear hb); (try clear hb2); (try clear hk); (try clear hi); (try clear ho0)) | ((with_reducible refine gate_builtin (b := .append) (xs := #[.tmp 39, .tmp 41]) rfl ?_); (try (refine gate_guard (by rfl) ?_; dsimp only)); at_builtin; refine Kd.R_append (Kd.int .i64) (w0 := w) w.heap.size rfl (.tmp 39) (.tmp 41) 22 3 (.int .i64 0) 8 rfl Try.underlying22 info3 rfl (by decide) (by omega) v117 t116 x8_1 [.int .i64 x8_1] (fun k_ => (w.heap.size ≤ k_)) (fun _ => False) rfl rfl ?aP (fun _ hk => hk.elim) ?aF ?aO ?aB ?aS ?aL ?_; (case aP => exact rfl); (case aB => exact (by repeat (first | (with_reducible first | exact HB.out | apply below_alloc | apply pw_below_drewN | apply below_drew1) | exact HB.out))); (case aF => exact (fun k_ hk => (Nat.le_trans (below_size (by repeat (first | (with_reducible first | exact HB.out | apply below_alloc | apply pw_below_drewN | apply below_drew1) | exact HB.out))) hk))); (case aO => exact (by (with_reducible repeat (first | apply Kd.R_alloc | apply Kd.R_drewN | apply Kd.R_drew)); exact Kd.R_mono HO118.out (fun _ hk => hk.1))); (case aS => exact (below_size (by repeat (first | (with_reducible first | exact HB.out | apply below_alloc | apply pw_below_drewN | apply below_drew1) | exact HB.out)))); (case aL => have := LMc17.out; omega); intro v120 w21 ho hb hg hat; rw [← Ny119.out] at ho; have n0_ := Aside0.mk (Kd.V_afterv (ok := (fun k_ => (P1_ k_ ∨ w.heap.size ≤ k_) ∧ some k_ ≠ (u7 : Value).ownBlock)) (by (with_reducible repeat (first | apply Kd.V_alloc | apply Kd.V_drewN | apply Kd.V_drew)); exact HO_1.out) hg hat); have n1_ := Aside0.mk (Kd.N_afterv (ok := (fun k_ => (P1_ k_ ∨ w.heap.size ≤ k_))) (by (with_reducible repeat (first | apply Kd.N_alloc | apply Kd.N_drewN | apply Kd.N_drew)); exact HO_7.out) hg hat); have n2_ := Aside0.mk (hb); have n3_ := Aside0.mk (ho); clear HO_1; clear HO_7; clear HB; clear HO118; have HO_1 := n0_; have HO_7 := n1_; have HB := n2_; have HO121 := n3_; clear n0_ n1_ n2_ n3_; clear ho hb hg hat; obtain ⟨Ao22, co22, eo22⟩ := Kd.R_slice HO121.out; subst eo22) | ((with_reducible refine gate_callee (f := 142) rfl ?_); refine goesL_ (some 46) rfl rfl Try.func142 (by kernel_rfl) rfl #[.slice A0 l0.length c0, .slice Ao22 y119.length co22, .int .i64 (wrap64 (a2 + x8_1))] rfl (by (try simp only [List.map_toArray, List.map_cons, List.map_nil]); first | done | rfl | (simp only [List.length_drop, List.length_take]; rfl)) ?_; (with_reducible refine (ih kj8 (by have := HK1.out; have := HJ8.out; omega) _ _ l0 (fun k_ => some k_ = (.slice Ao22 y119.length co22 : Value).ownBlock) _ _ y119 (wrap64 (a2 + x8_1)) t122 _ ?side1 ?side2 ?side3 A18.out).mono ?_); (case side1 => repeat (first | exact (Kd.C_below HR0.out HB.out) | (with_reducible refine Kd.C_alloc ?_ _) | (with_reducible refine Kd.C_drewN ?_ _) | (with_reducible refine Kd.C_drew ?_))); (case side2 => exact HC0.out); (case side3 => exact Kd.R_V (Kd.R_tight rfl (Kd.R_apart' (HO121.out) (Kd.N_typed HO_7.out) (by decide)))); rintro e w23 ⟨v123, rfl, ho0, hb⟩; refine ⟨_, rfl, ?_⟩; have n0_ := Aside0.mk (Kd.V_elder' (by (with_reducible repeat (first | apply Kd.V_alloc | apply Kd.V_drewN | apply Kd.V_drew)); exact HO_1.out) (Kd.N_base ho0) hb); have n1_ := Aside0.mk (Kd.N_elder' (by (with_reducible repeat (first | apply Kd.N_alloc | apply Kd.N_drewN | apply Kd.N_drew)); exact HO_7.out) (Kd.N_base ho0) hb); have n2_ := Aside0.mk (Kd.R_below (by (with_reducible repeat (first | apply Kd.R_alloc | apply Kd.R_drewN | apply Kd.R_drew)); exact HO121.out) hb); have n3_ := Aside0.mk (Kd.N_lower (Kd.N_mono (ok' := fun k_ => (P1_ k_ ∨ w.heap.size ≤ k_) ∧ some k_ ≠ (u7 : Value).ownBlock) ho0 (fun k_ hk_ => ⟨Or.elim hk_ (fun hs_ => (.inr (((Kd.R_apart' (HO121.out) (Kd.N_typed HO_7.out) (by decide)).1 k_ hs_.symm).1))) (fun hn_ => (.inr (Nat.le_trans (below_size (by repeat (first | (with_reducible first | exact HB.out | apply below_alloc | apply pw_below_drewN | apply below_drew1) | exact HB.out))) hn_))), Or.elim hk_ (fun hs_ => ((Kd.R_apart' (HO121.out) (Kd.N_typed HO_7.out) (by decide)).1 k_ hs_.symm).2) (fun hn_ => (Kd.fresh' (Kd.N_lt (by (with_reducible repeat (first | apply Kd.N_alloc | apply Kd.N_drewN | apply Kd.N_drew)); exact HO_7.out)) k_ hn_))⟩)) (below_size (by repeat (first | (with_reducible first | exact HB.out | apply below_alloc | apply pw_below_drewN | apply below_drew1) | exact HB.out)))); have n4_ := Aside0.mk (below_step (by repeat (first | (with_reducible first | exact HB.out | apply below_alloc | apply pw_below_drewN | apply below_drew1) | exact HB.out)) hb); clear HO_1; clear HO_7; clear HO121; clear HB; have HO_1 := n0_; have HO_7 := n1_; have HO121 := n2_; have HO124 := n3_; have HB := n4_; clear n0_ n1_ n2_ n3_ n4_; (try clear hb); (try clear hb2); (try clear hk); (try clear hi); (try clear ho0); obtain ⟨Ao25, co25, eo25⟩ := Kd.N_slice HO124.out; subst eo25) | ((with_reducible refine gate_builtin (b := .append) (xs := #[.tmp 36, .tmp 46]) rfl ?_); (try (refine gate_guard (by rfl) ?_; dsimp only)); at_builtin; refine Kd.N_append_rows (Kd.slice 3 (Kd.int .i64)) (w0 := w) w.heap.size rfl (.tmp 36) (.tmp 46) 36 22 (.slice none 0 0) 24 rfl Try.underlying36 info22 rfl (by decide) (by omega) u7 x7_1 t122 _ _ _ (fun k_ => (P1_ k_ ∨ w.heap.size ≤ k_)) (fun k_ => ((fun k_ => (P1_ k_ ∨ w.heap.size ≤ k_))) k_ ∧ some k_ ≠ (u7 : Value).ownBlock) rfl rfl ?aO ?aR (fun _ hk => hk) ?aF ?aB ?aS ?aL ?_; (case aR => exact (by skip; exact Kd.N_F (Kd.N_mono (ok' := (fun k_ => ((fun k_ => (P1_ k_ ∨ w.heap.size ≤ k_))) k_ ∧ some k_ ≠ (u7 : Value).ownBlock)) (HO124.out) (fun k_ hk => ⟨hk.1, hk.2⟩)))); (case aB => exact (by repeat (first | (with_reducible first | exact HB.out | apply below_alloc | apply pw_below_drewN | apply below_drew1) | exact HB.out))); (case aF => exact (fun k_ hk => (.inr (Nat.le_trans (below_size (by repeat (first | (with_reducible first | exact HB.out | apply below_alloc | apply pw_below_drewN | apply below_drew1) | exact HB.out))) hk)))); (case aO => exact (by (with_reducible repeat (first | apply Kd.N_alloc | apply Kd.N_drewN | apply Kd.N_drew)); exact Kd.N_mono HO_7.out (fun _ hk => hk.1.1))); (case aS => exact (below_size (by repeat (first | (with_reducible first | exact HB.out | apply below_alloc | apply pw_below_drewN | apply below_drew1) | exact HB.out)))); (case aL => have := LMc19.out; omega); intro v126 w24 ho hb hg hat; rw [← Ny125.out] at ho; have n0_ := Aside0.mk (Kd.V_afterv (ok := (fun k_ => (P1_ k_ ∨ w.heap.size ≤ k_) ∧ some k_ ≠ (.slice Ao22 y119.length co22 : Value).ownBlock ∧ some k_ ≠ (.slice Ao25 t122.length co25 : Value).ownBlock)) (by (with_reducible repeat (first | apply Kd.V_alloc | apply Kd.V_drewN | apply Kd.V_drew)); exact Kd.V_mono HO_1.out (fun _ hk => ⟨⟨hk.1.1.1, ⟨hk.1.2, hk.2⟩⟩, hk.1.1.2⟩)) hg hat); have n1_ := Aside0.mk (Kd.R_over' (by (with_reducible repeat (first | apply Kd.R_alloc | apply Kd.R_drewN | apply Kd.R_drew)); exact HO121.out) (Kd.N_typed (by (with_reducible repeat (first | apply Kd.N_alloc | apply Kd.N_drewN | apply Kd.N_drew)); exact HO_7.out)) (by decide) hg); have n2_ := Aside0.mk (Kd.N_afterv (ok := (fun k_ => (P1_ k_ ∨ w.heap.size ≤ k_))) (by (with_reducible repeat (first | apply Kd.N_alloc | apply Kd.N_drewN | apply Kd.N_drew)); exact HO124.out) hg hat); have n3_ := Aside0.mk (hb); have n4_ := Aside0.mk (ho); clear HO_1; clear HO121; clear HO124; clear HB; clear HO_7; have HO_1 := n0_; have HO121 := n1_; have HO124 := n2_; have HB := n3_; have HO127 := n4_; clear n0_ n1_ n2_ n3_ n4_; clear ho hb hg hat))
                    go_roundg kj8
                    case measure => have := HK1.out; have := HJ8.out; omega
                    case rel => exact ⟨(y125), (wrap64 (x8_1 + 1)), (by first | rfl | (simp; done) | (simp [*]; done)), H', ⟨by have := HK1.out; have := HJ8.out; omega⟩, ⟨by (with_reducible repeat (first | apply Kd.V_alloc | apply Kd.V_drewN | apply Kd.V_drew)); exact Kd.V_mono HO_1.out (fun _ hk => ⟨hk.1.1, hk.2⟩)⟩, ⟨by (with_reducible repeat (first | apply Kd.N_alloc | apply Kd.N_drewN | apply Kd.N_drew)); exact HO127.out⟩, ⟨by repeat (first | (with_reducible first | exact HB.out | apply below_alloc | apply pw_below_drewN | apply below_drew1) | exact HB.out)⟩⟩
                  · rw [if_neg c19] at H
                    exact absurd H (by simp)
                · rw [if_neg c17] at H
                  exact absurd H (by simp)
              · replace c15 := Bool.eq_false_iff.mpr c15
                subst c15
                have H1 : (spec_weRows.l0 kj8 l0 l1 a2 x7_1 (wrap64 (x8_1 + 1))) = some r := by rw [if_neg (show ¬ (false = true) by decide)] at H; exact H
                clear H
                have H := H1
                clear H1
                have H' := Aside0.mk H
                clear H
                go_wp2
                go_roundg kj8
                case measure => have := HK1.out; have := HJ8.out; omega
                case rel => exact ⟨(x7_1), (wrap64 (x8_1 + 1)), (by first | rfl | (simp; done) | (simp [*]; done)), H', ⟨by have := HK1.out; have := HJ8.out; omega⟩, ⟨by (with_reducible repeat (first | apply Kd.V_alloc | apply Kd.V_drewN | apply Kd.V_drew)); exact HO_1.out⟩, ⟨by (with_reducible repeat (first | apply Kd.N_alloc | apply Kd.N_drewN | apply Kd.N_drew)); exact HO_7.out⟩, ⟨by repeat (first | (with_reducible first | exact HB.out | apply below_alloc | apply pw_below_drewN | apply below_drew1) | exact HB.out)⟩⟩
        · rw [if_neg c8] at H
          have c8b0 : decide (x8_1 ≤ 1) = false := decide_eq_false c8
          clear c8
          obtain rfl := Option.some.inj H
          go_wp2
          go_ret
          exact ⟨_, by first | rfl | (simp [errW_none, errW_some] <;> rfl) | (simp [*, errW_none, errW_some] <;> rfl), by (with_reducible repeat (first | apply Kd.N_alloc | apply Kd.N_drewN | apply Kd.N_drew)); exact HO_7.out, by repeat (first | (with_reducible first | exact HB.out | apply below_alloc | apply pw_below_drewN | apply below_drew1) | exact HB.out)⟩

end Go.Proofs.Ytdcdkckpmkfjdaa.P

/- The reference's sign matrices: what weGoOn makes. -/
namespace Go.Proofs.Ytdcdkckpmkfjdaa.L
open Go.RowKit Go.Proofs.Ytdcdkckpmkfjdaa Go.Proofs.Ytdcdkckpmkfjdaa.P Go.Proofs.YtdcdkckpmkfjdaaW.PrintWords Go.Proofs.YtdcdkckpmkfjdaaW.PrintLast Go.Proofs.YtdcdkckpmkfjdaaW.PrintMore
set_option linter.unusedVariables false
set_option linter.unusedSimpArgs false

/-- A row added to the sums of the columns. -/
def addR (s r : List Int) (j : Nat) : List Int := (List.range j).foldl (fun s j => s.set j (wrap64 (rd s j + rd r j))) s
theorem addR_succ (s r : List Int) (j : Nat) : addR s r (j + 1) = (addR s r j).set j (wrap64 (rd (addR s r j) j + rd r j)) := by
  unfold addR
  rw [List.range_succ, List.foldl_append]
  rfl
theorem addR_length (s r : List Int) : ∀ j, (addR s r j).length = s.length
  | 0 => rfl
  | j + 1 => by rw [addR_succ, List.length_set, addR_length s r j]
theorem own_at {g j n c : Nat} (h : some j = (Value.slice (some ⟨g, 0, none⟩) n c).ownBlock) : j = g := by simpa [Value.ownBlock] using h
mutual
def wgL : Nat → List (List Int) → List Int → List (List Int) → Option (List (List (List Int)))
  | 0, _, _, _ => none
  | k + 1, rows, s, L => match L with
    | [] => some []
    | r :: rest => if r.length ≤ s.length then (wgE k (rows ++ [r]) (addR s r r.length)).bind fun a => (wgL k rows s rest).bind fun b => some (a ++ b) else none
def wgE : Nat → List (List Int) → List Int → Option (List (List (List Int)))
  | 0, _, _ => none
  | k + 1, rows, s => if rows.length ≤ 100 ∧ s.length ≤ 100 then (if rows.length = s.length then some (if (s.all fun x => inB x 1 1) = true then [rows] else []) else (spec_weRows.f k s [] 0).bind fun L => if L.length ≤ 1000 then wgL k rows s L else none) else none
end
/-- A list of tables comes back whose blocks are ok or new. -/
def RetNM (w : World) (ok : Nat → Prop) (L : List (List (List Int))) (e : Ending) (w' : World) : Prop := ∃ v : Value, e = .returned v ∧ Kd.N (Kd.slice 22 (Kd.slice 3 (Kd.int .i64))) 36 w' w.heap.size (fun k => ok k ∨ w.heap.size ≤ k) v L ∧ Below w.heap.size w w'
/-- A list of one element, in a block of its own. -/
theorem one_N {α : Type} {d : Kd α} {e e1 : Nat} {W : World} {ok okp : Nat → Prop} {x : List α} {u : Value} (hf : Kd.FK (Kd.slice e1 d) W okp x [u]) (hok : ∀ k, okp k → ok k) (hfr : ok W.heap.size) (hlt : ∀ k, okp k → k < W.heap.size) :
    Kd.N (Kd.slice e1 d) e (W.alloc (.cells #[u] e)) W.heap.size ok (.slice (some ⟨W.heap.size, 0, none⟩) 1 1) [x] := by
  have hb := below_alloc (Below.refl W.heap.size W) (.cells #[u] e)
  have hsz1 : (Kd.raw (Kd.slice e1 d).sz).sz = 1 := rfl
  refine ⟨fun k hk => ?_, [[u]], rfl, ⟨fun k hk => hk.symm, [u], ?_, ?_⟩, ?_⟩
  · have : W.heap.size = k := by simpa [Value.ownBlock] using hk
    exact this ▸ hfr
  · exact ⟨rfl, .inr ⟨W.heap.size, 1, #[u], rfl, Nat.le_refl _, blk_new W _, Nat.le_refl _, by unfold maxLen; omega, rfl, rfl⟩⟩
  · refine ⟨rfl, fun j c hj => ?_⟩
    rcases j with _ | j
    · obtain rfl := Option.some.inj hj
      exact ⟨rfl, rfl, (Kd.slice e1 d).K_one (Kd.FK_now hf)⟩
    · simp at hj
  · intro j y c hy hc
    rcases j with _ | j
    · obtain rfl := Option.some.inj hy
      obtain rfl := Option.some.inj hc
      exact Kd.FK_mono (Kd.FK_below hf hb) (fun k hk => ⟨hok k hk, fun e => by have h2 := hlt k hk; have : k = W.heap.size := by simpa [Value.ownBlock] using e
                                                                               omega⟩)
    · simp at hy
def okV (W : World) (ok : Nat → Prop) (v : Value) : Nat → Prop := fun j => ((ok j ∧ j < W.heap.size) ∨ W.heap.size ≤ j) ∧ some j ≠ v.ownBlock
def okT (W : World) (ok : Nat → Prop) : Nat → Prop := fun j => (ok j ∧ j < W.heap.size) ∨ W.heap.size ≤ j
set_option maxHeartbeats 4000000 in
set_option maxRecDepth 100000 in
theorem spec_weGoOn.callsG : ∀ (k : Nat) (rows : List (List Int)) (s : List Int) (X : List (List (List Int))) (A : Option Addr) (c : Nat) (As : Option Addr) (cs : Nat) (W : World) (ok : Nat → Prop), wgE k rows s = some X → X.length ≤ 1000000 →
    Kd.F (Kd.slice 3 (Kd.int .i64)) W ok A rows.length rows → rows.length ≤ c → Kd.C (Kd.int .i64) W As s.length s → s.length ≤ cs →
    Calls Try.prog 109 #[.slice A rows.length c, .slice As s.length cs] W (RetNM W ok X) := by
  intro k
  induction k using Nat.strongRecOn with
  | _ k ih =>
  intro rows s X A c As cs W ok hX hXl hF hc hC hcs
  cases k with
  | zero => simp [wgE] at hX
  | succ k =>
  rw [wgE] at hX
  split at hX
  case isFalse => cases hX
  rename_i hsm
  have hrl := hsm.1
  have hsl := hsm.2
  have HF := Aside0.mk (Kd.F_bound hF)
  have HC := Aside0.mk (Kd.C_F (Kd.heap_int _) hC)
  have HCN := Aside0.mk hc
  have HCS := Aside0.mk hcs
  have HB := Aside0.mk (Below.refl W.heap.size W)
  clear hF hC hsm hc hcs
  split at hX
  · rename_i he
    obtain ⟨ka, hka⟩ := (l1All_ev s 1 1 (by omega)).rounds
    have HA := Aside0.mk (fun W' (hb : Below W.heap.size W W') => spec_l1All.calls ka As cs s 1 1 _ W' (Kd.F_now (Kd.F_below HC.out hb)) HCS.out hka)
    have hez : (rows.length : Int) = (s.length : Int) := by omega
    obtain rfl := Option.some.inj hX
    clear hX hka
    cases ha : s.all fun x => inB x 1 1 with
    | false =>
      rw [ha] at HA
      rw [if_neg (by simp)]
      clear ha
      go_enter Try.func109, Try.ntmps109
      go_wp2_with (go_at_call 114; refine (HA.out _ HB.out).mono ?_; rintro e w1 ⟨rfl, hd⟩; have hb := hd.below; clear hd)
      go_ret
      exact ⟨_, rfl, Kd.N_nil _ _ _ _ _, hb⟩
    | true =>
      rw [ha] at HA
      rw [if_pos rfl]
      clear ha
      go_enter Try.func109, Try.ntmps109
      go_wp2_with (go_at_call 114; refine (HA.out _ HB.out).mono ?_; rintro e w1 ⟨rfl, hd⟩; have hb := hd.below; clear hd)
      go_ret
      refine ⟨_, rfl, ?_, below_alloc hb _⟩
      rw [← he]
      exact Kd.N_lower (one_N (okp := fun k => ok k ∧ k < W.heap.size) (Kd.FK_slice_mk HCN.out (Kd.F_below HF.out hb)) (fun k hk => .inl hk.1) (.inr hb.size) (fun k hk => by have := hk.2; have := hb.size; omega)) hb.size
  · rename_i he
    have hez : ¬ (rows.length : Int) = (s.length : Int) := by omega
    obtain ⟨L, hL, hX⟩ := Option.bind_eq_some_iff.1 hX
    split at hX
    case isFalse => cases hX
    rename_i hLl
    have HM := Aside0.mk hX
    have HR := Aside0.mk (fun W' (hb : Below W.heap.size W W') => spec_weRows.calls k As cs s (fun _ => False) none 0 [] 0 L W' (Kd.F_now (Kd.F_below HC.out hb)) HCS.out (Kd.V_nil _ _ _ _ _) hL)
    have IH := Aside0.mk ih
    clear hX hL ih
    go_enter Try.func109, Try.ntmps109
    go_wp2_with (go_at_call 142; refine (HR.out _ HB.out).mono ?_; rintro e w1 ⟨v1, rfl, hN, hb⟩; obtain ⟨Al, cl, rfl⟩ := Kd.N_slice hN; have HL := Aside0.mk (Kd.F_mono (ok' := fun j => W.heap.size ≤ j ∧ j < w1.heap.size) (Kd.F_bound (Kd.N_F hN)) (fun j hj => ⟨hj.1.elim (fun h => h.elim) id, hj.2⟩)); have HB1 := Aside0.mk hb; clear hN hb)
    have HSZ := Aside0.mk (show W.heap.size ≤ w1.heap.size from HB1.out.size)
    clear HR
    go_loopg [5, 24] k (fun kq s5 s24 wr => ∃ (i : Nat) (X2 Y : List (List (List Int))), i ≤ L.length ∧ s24 = .int .i64 i ∧ Aside0 (wgL kq rows s (L.drop i) = some Y) ∧ Aside0 (kq ≤ k) ∧ Aside0 (X2 ++ Y = X) ∧ Aside0 (Kd.N (Kd.slice 22 (Kd.slice 3 (Kd.int .i64))) 36 wr w1.heap.size (okT W ok) s5 X2) ∧ Aside0 (Below w1.heap.size w1 wr))
    case atStart => exact ⟨0, [], X, Nat.zero_le _, rfl, HM, ⟨Nat.le_refl _⟩, ⟨rfl⟩, ⟨Kd.N_nil _ _ _ _ _⟩, ⟨Below.refl _ _⟩⟩
    case round =>
      clear HM
      obtain ⟨i, X2, Y, hi, rfl, HM, HK, HX, HN, HBr⟩ := hrel
      cases gk with
      | zero => exact absurd HM.out (by simp [wgL])
      | succ k3 =>
      have H := HM.out
      by_cases hlt : i < L.length
      · have hz : (i : Int) < (L.length : Int) := by omega
        obtain ⟨r, hr⟩ : ∃ r, r = L[i] := ⟨_, rfl⟩
        rw [List.drop_eq_getElem_cons hlt, ← hr, wgL] at H
        split at H
        case isFalse => cases H
        rename_i hrs
        obtain ⟨a, ha, H⟩ := Option.bind_eq_some_iff.1 H
        obtain ⟨b2, hb2, H⟩ := Option.bind_eq_some_iff.1 H
        obtain rfl := Option.some.inj H
        obtain ⟨ad, cc, hA, hcl1, hFK, hcell, _⟩ := Kd.F_get HL.out ([] : List Int) (i : Int) (by omega) (by omega)
        subst hA
        obtain ⟨Ar, cr, rfl, hcr, hFx⟩ := Kd.FK_slice_open hFK
        have hx := hcell 0 _ rfl
        rw [Int.toNat_natCast, show (Kd.slice 3 (Kd.int .i64)).sz = 1 from rfl, Nat.mul_one, Nat.add_zero] at hx
        have hge : L.getD i [] = r := by rw [hr, List.getD_eq_getElem?_getD, List.getElem?_eq_getElem hlt]; rfl
        rw [Int.toNat_natCast, hge] at hcr hFx
        rw [hge] at hx
        replace hx := pw_cell_below HBr.out hx
        have HXF := Aside0.mk hFx
        have HCR := Aside0.mk hcr
        have HA := Aside0.mk ha
        have HB2 := Aside0.mk hb2
        obtain ⟨wo, rfl⟩ : ∃ wo : World, wo = wr := ⟨_, rfl⟩
        have HBo := Aside0.mk (HB1.out.trans (HBr.out.mono HSZ.out))
        have HOW := Aside0.mk (spec_l1Own.calls As cs s s wo (Kd.F_now (Kd.F_below HC.out HBo.out)) HCS.out (by unfold spec_l1Own.f; simp only [Option.bind_some, List.length_nil, List.nil_append]; rw [if_pos (by omega)]))
        clear HM H ha hb2 hFK hcell hcl1 hcr hFx hge hr
        go_wp2_with (go_at_call 110; refine HOW.out.mono ?_; rintro e w2 ⟨v8, rfl, hR8, hb8⟩; obtain ⟨A8, c8, rfl⟩ := Kd.R_slice hR8; have HR8 := Aside0.mk hR8; have HB8 := Aside0.mk hb8; clear hR8 hb8)
        go_loopg [32] r.length (fun gj s32 wr2 => ∃ j : Nat, j ≤ r.length ∧ r.length - j ≤ gj ∧ s32 = .int .i64 j ∧ Aside0 (Kd.R (Kd.int .i64) 3 wr2 wo.heap.size (fun _ => True) (.slice A8 s.length c8) (addR s r j)) ∧ Aside0 (Below wo.heap.size wo wr2))
        case atStart => exact ⟨0, Nat.zero_le _, Nat.le_refl _, rfl, HR8, HB8⟩
        case round =>
          clear HR8 HB8 HOW hx
          obtain ⟨j, hj, hgj, rfl, HR8, HB8⟩ := hrel
          by_cases hjt : j < r.length
          · have hjz : (j : Int) < (r.length : Int) := by omega
            have hjs : (j : Int) < (s.length : Int) := by omega
            have hcl := addR_length s r j
            obtain ⟨ad8, rfl, _⟩ := (Kd.R_reads' HR8.out).2.2.2.2 (by rw [hcl]; omega)
            obtain ⟨g8, rfl⟩ := Kd.R_head HR8.out
            have hb8 := Kd.R_base HR8.out g8 rfl
            obtain ⟨adr, e1, hy⟩ := Kd.at_int (Kd.F_now (Kd.F_below HXF.out (HBr.out.trans (HB8.out.mono HBr.out.size)))) (j : Int) (by omega) hjz
            subst e1
            obtain ⟨hc8, hf8⟩ := Kd.R_celln 0 HR8.out (j : Int) (by omega) hjs
            have hp8 := Kd.R_putn HR8.out (j : Int) (wrap64 (rd (addR s r j) j + rd r j))
            have hs8 := addR_succ s r j
            simp only [Int.toNat_natCast] at hy hc8 hf8 hp8
            rw [← hs8] at hp8
            have HP8 := Aside0.mk hp8
            have HBN := Aside0.mk (HB8.out.setCell (p := ⟨g8, j, none⟩) hb8 (.int .i64 (wrap64 (rd (addR s r j) j + rd r j))))
            have hc9 : wr.cell? ⟨g8, j, none⟩ = some (.int .i64 (rd (addR s r j) j)) := hc8
            have hf9 : wr.frozen? ⟨g8, j, none⟩ = false := hf8
            obtain ⟨cu, hcu⟩ : ∃ cu, cu = rd (addR s r j) j := ⟨_, rfl⟩
            rw [← hcu] at HP8 HBN hc9
            clear hc8 hf8 hp8 hs8 hcu hcl
            go_wp2
            go_roundg (r.length - (j + 1))
            case measure => omega
            case rel => exact ⟨j + 1, by omega, by omega, by go_num, HP8, HBN⟩
          · have hjz : ¬ (j : Int) < (r.length : Int) := by omega
            have hje : j = r.length := by omega
            subst hje
            have hlt5 := Kd.N_lt HN.out
            have hsz1 := HBr.out.size
            have hsz8 := HB8.out.size
            have HFV := Aside0.mk (show ∀ j, wr.heap.size ≤ j → okV W ok u5 j from fun j hj => ⟨.inr (by have := HSZ.out; omega), fun e => by have := hlt5 j e.symm; omega⟩)
            have HBW := Aside0.mk (show Below W.heap.size W wr from HB1.out.trans ((HBr.out.trans (HB8.out.mono hsz1)).mono HSZ.out))
            have HBV := Aside0.mk (show Below w1.heap.size w1 wr from HBr.out.trans (HB8.out.mono hsz1))
            have HE := Aside0.mk (show Kd.N (Kd.slice 3 (Kd.int .i64)) 22 (wr.alloc (.cells #[] 22)) wr.heap.size (okV W ok u5) (.slice (some ⟨wr.heap.size, 0, none⟩) 0 0) ([] : List (List Int)) from Kd.S_N (S_empty (blk_new wr _) (Nat.le_refl _) (HFV.out _ (Nat.le_refl _))))
            have HN5 := Aside0.mk (Kd.N_below (Kd.N_bound HN.out) HB8.out)
            have HRW := Aside0.mk (Kd.F_below HF.out (HBW.out.trans ((below_alloc (Below.refl wr.heap.size wr) (.cells #[] 22)).mono (by have := HSZ.out; omega))))
            have HOK := Aside0.mk (show ∀ j, (ok j ∧ j < W.heap.size) → okV W ok u5 j ∧ some j ≠ (Value.slice (some ⟨wr.heap.size, 0, none⟩) 0 0).ownBlock from fun j hj => ⟨⟨.inl hj, fun e => by have := Kd.N_base HN.out j e.symm; have := hj.2; have := HSZ.out; omega⟩, fun e => by have h1 := hj.2; have h2 := own_at e; have := HSZ.out; omega⟩)
            have HOL := Aside0.mk (show ∀ j, (W.heap.size ≤ j ∧ j < w1.heap.size) → okV W ok u5 j from fun j hj => ⟨.inr hj.1, fun e => by have := Kd.N_base HN.out j e.symm; have := hj.2; omega⟩)
            have HSL := Aside0.mk (addR_length s r r.length)
            obtain ⟨s9, hs9⟩ : ∃ z, z = addR s r r.length := ⟨_, rfl⟩
            rw [← hs9] at HSL HA HR8
            have HXA := Aside0.mk (show (X2 ++ a).length + b2.length ≤ 1000000 by have h1 := hXl; rw [← HX.out, List.length_append, List.length_append] at h1; rw [List.length_append]; omega)
            clear HN HB8 HBr hs9
            go_wp2_with (first
              | ((with_reducible refine gate_builtin (b := .append) (xs := #[.tmp 46, .tmp 47]) rfl ?_); at_builtin; refine Kd.N_append_rows (Kd.slice 3 (Kd.int .i64)) (w0 := wr) wr.heap.size rfl (.tmp 46) (.tmp 47) 36 22 (.slice none 0 0) 24 rfl Try.underlying36 info_rowsU rfl (by decide) (by omega) (.slice (some ⟨wr.heap.size, 0, none⟩) 0 0) ([] : List (List Int)) rows _ _ _ (okV W ok u5) (fun k => ok k ∧ k < W.heap.size) rfl rfl HE.out HRW.out HOK.out (fun j hj => HFV.out j (Nat.le_trans (by simp) hj)) (below_alloc (Below.refl _ _) _) (by simp) (by simp only [List.length_nil]; omega) ?_; intro v7 w7 ho7 hb7 hg7 hat7; rw [List.nil_append] at ho7; have HN7 := Aside0.mk ho7; have HB7 := Aside0.mk hb7; have HG7 := Aside0.mk (show ∀ k, v7.ownBlock = some k → wr.heap.size ≤ k from fun k e => hat7.elim (fun h => by rw [h] at e; have h2 := own_at e.symm; omega) (fun ⟨b, h, hb⟩ => by rw [h] at e; injection e with e; subst e; exact Nat.le_trans (by simp) hb)); clear ho7 hb7 hg7 hat7)
              | ((with_reducible refine gate_builtin (b := .append) (xs := #[.tmp 48, .tmp 50]) rfl ?_); at_builtin; refine Kd.N_append (Kd.slice 3 (Kd.int .i64)) (w0 := wr) wr.heap.size rfl (.tmp 48) (.tmp 50) 36 22 (.slice none 0 0) 24 rfl Try.underlying36 info_rowsU rfl (by decide) (by omega) v7 rows r [.slice Ar r.length cr] (okV W ok u5) (fun k => W.heap.size ≤ k ∧ k < w1.heap.size) rfl rfl (Kd.FK_slice_mk HCR.out (Kd.F_below HXF.out (HBV.out.trans (HB7.out.mono (Nat.le_trans hsz1 hsz8))))) (fun j hj => ⟨HOL.out j hj, fun e => by have := HG7.out j e.symm; have := hj.2; omega⟩) (fun j hj => HFV.out j (Nat.le_trans HB7.out.size hj)) HN7.out HB7.out HB7.out.size (by omega) ?_; intro v8 w8 ho8 hb8 hg8 hat8; obtain ⟨R9, hR9⟩ : ∃ z, z = rows ++ [r] := ⟨_, rfl⟩; rw [← hR9] at ho8 HA; obtain ⟨A9, c9, rfl⟩ := Kd.N_slice ho8; have HN8 := Aside0.mk ho8; have HB8 := Aside0.mk hb8; clear ho8 hb8 hg8 hat8 hR9)
              | (go_at_call 109; have hh := IH.out k3 (by have := HK.out; omega) R9 s9 a A9 c9 A8 c8 w8 (okV W ok u5) HA.out (by have := HXA.out; rw [List.length_append] at this; omega) (Kd.N_F HN8.out) (Kd.N_reads' HN8.out).2.1 (Kd.C_below (Kd.R_reads' HR8.out).2.2 HB8.out) (by have := (Kd.R_reads' HR8.out).2.1; have := HSL.out; omega); rw [HSL.out] at hh; refine hh.mono ?_; rintro e w9 ⟨v9, rfl, hN9, hb9⟩; obtain ⟨A53, c53, rfl⟩ := Kd.N_slice hN9; have HN9 := Aside0.mk hN9; have HB9 := Aside0.mk (HB8.out.trans (hb9.mono HB8.out.size)); clear hN9 hb9 hh)
              | ((with_reducible refine gate_builtin (b := .append) (xs := #[.tmp 45, .tmp 53]) rfl ?_); at_builtin; refine Kd.N_append_rows (Kd.slice 22 (Kd.slice 3 (Kd.int .i64))) (w0 := w1) w1.heap.size rfl (.tmp 45) (.tmp 53) 43 36 (.slice none 0 0) 24 rfl Try.underlying43 info_tabsD rfl (by decide) (by omega) u5 X2 a _ _ _ (okT W ok) (okV W ok u5) rfl rfl (Kd.N_mono (Kd.N_below HN5.out HB9.out) (fun k hk => hk.1)) (Kd.N_F (Kd.N_mono HN9.out (fun j hj => hj.elim id (fun h => HFV.out j (Nat.le_trans HB8.out.size h))))) (fun _ h => h) (fun j hj => .inr (by have := HB9.out.size; have := HSZ.out; omega)) (HBV.out.trans (HB9.out.mono (Nat.le_trans hsz1 hsz8))) (by have := HB9.out.size; omega) (by have := HXA.out; rw [List.length_append] at this; omega) ?_; intro v10 w10 ho10 hb10 hg10 hat10; have HN10 := Aside0.mk ho10; have HB10 := Aside0.mk hb10; clear ho10 hb10 hg10 hat10))
            go_roundg k3
            case measure => have := HK.out; omega
            case rel => exact ⟨i + 1, X2 ++ a, b2, by omega, by go_num, HB2, ⟨by have := HK.out; omega⟩, ⟨by rw [List.append_assoc]; exact HX.out⟩, HN10, HB10⟩
      · have hz : ¬ (i : Int) < (L.length : Int) := by omega
        have hie : i = L.length := by omega
        subst hie
        rw [List.drop_length, wgL] at H
        obtain rfl := Option.some.inj H
        have HX3 := Aside0.mk (show X2 = X by have := HX.out; rwa [List.append_nil] at this)
        clear H HM
        go_wp2
        go_ret
        exact ⟨_, rfl, by rw [← HX3.out]; exact Kd.N_lower (Kd.N_mono HN.out (fun k hk => hk.imp (fun h => h.1) id)) HSZ.out, HB1.out.trans (HBr.out.mono HSZ.out)⟩
end Go.Proofs.Ytdcdkckpmkfjdaa.L

namespace Go.Proofs.Ytdcdkckpmkfjdaa
open Go.RowKit Go.Proofs.YtdcdkckpmkfjdaaW.PrintWords Go.Proofs.YtdcdkckpmkfjdaaW.PrintLast Go.Proofs.YtdcdkckpmkfjdaaW.PrintMore
set_option linter.unusedVariables false
set_option linter.unusedSimpArgs false

def cnt1 (c : List Int) (x : Int) : List Int := c.set x.toNat (wrap64 (rd c x + 1))
def cntRow (row : List Int) (c : List Int) : List Int := row.foldl cnt1 c
def cntAll (T : List (List Int)) (c : List Int) : List Int := T.foldl (fun c r => cntRow r c) c
def cTo (K : List (List Int)) (c : List Int) (i : Nat) : List Int := cntAll (K.take i) c
theorem cnt1_length (c : List Int) (x : Int) : (cnt1 c x).length = c.length := by simp [cnt1]
theorem cntRow_length : ∀ (row c : List Int), (cntRow row c).length = c.length
  | [], c => rfl
  | x :: r, c => (cntRow_length r (cnt1 c x)).trans (cnt1_length c x)
theorem cntAll_length : ∀ (T : List (List Int)) (c : List Int), (cntAll T c).length = c.length
  | [], c => rfl
  | r :: T, c => (cntAll_length T (cntRow r c)).trans (cntRow_length r c)
theorem cTo_length (K : List (List Int)) (c : List Int) (i : Nat) : (cTo K c i).length = c.length := cntAll_length _ _
theorem cTo_end (K : List (List Int)) (c : List Int) (i : Nat) (h : K.length ≤ i) : cTo K c i = cntAll K c := by unfold cTo; rw [List.take_of_length_le h]
theorem cTo_succ (K : List (List Int)) (c : List Int) (i : Nat) (h : i < K.length) : cTo K c (i + 1) = cntRow (K.getD i []) (cTo K c i) := by
  unfold cTo cntAll
  rw [List.take_add_one, List.getElem?_eq_getElem h, List.foldl_append, List.getD_eq_getElem?_getD, List.getElem?_eq_getElem h]; rfl
theorem cntRow_succ (row c : List Int) (j : Nat) (h : j < row.length) : cntRow (row.take (j + 1)) c = cnt1 (cntRow (row.take j) c) (rd row j) := by
  unfold cntRow
  rw [List.take_add_one, List.getElem?_eq_getElem h, List.foldl_append, show rd row j = row[j] by simp [rd, List.getD_eq_getElem?_getD, h]]; rfl

set_option maxHeartbeats 4000000 in
set_option maxRecDepth 100000 in
theorem spec_weCounts.callsG (A0 : Option Addr) (c0 : Nat) (l0 K : List (List Int)) (w : World)
    (hk : ∀ W, Below w.heap.size w W → Calls Try.prog 120 #[.slice A0 l0.length c0] W fun e w' => ∃ v0_ : Value, e = .returned (v0_) ∧ Kd.S (Kd.slice 3 (Kd.int .i64)) 22 w' W.heap.size (fun _ => True) v0_ K ∧ Below W.heap.size W w')
    (hK : ∀ i j : Nat, i < K.length → j < (K.getD i []).length → 0 ≤ rd (K.getD i []) j ∧ rd (K.getD i []) j < 6) :
    Calls Try.prog 77 #[.slice A0 l0.length c0] w (RetR w (cntAll K (List.replicate 6 0))) := by
  have HKK := Aside0.mk hk
  have HKR := Aside0.mk hK
  clear hk hK
  have mk1 : ∀ W : World, Sem.run Try.prog (Instr.makeSlice 22 (.int .i64 6) (.int .i64 6)) W = Result.ok (Value.slice (some ⟨W.heap.size, 0, none⟩) 6 6) (W.alloc (.cells (madeCells #[.int .i64 0] 6) 3)) := fun W => run_make_row' (P := Try.prog) 22 3 (.int .i64 0) 8 Try.underlying22 info_ints rfl .i64 .i64 6 (by omega) (by omega) W
  have hst : intBlk (w.alloc (.cells (madeCells #[.int .i64 0] 6) 3)) w.heap.size (List.replicate 6 0) := by unfold intBlk; have := blk_new w (.cells (madeCells #[.int .i64 0] 6) 3); rw [madeInts] at this ⊢; exact this
  have HST := Aside0.mk hst
  have HB0 := Aside0.mk (below_alloc (Below.refl w.heap.size w) (.cells (madeCells #[.int .i64 0] 6) 3))
  have HSZ := Aside0.mk (show w.heap.size < (w.alloc (.cells (madeCells #[.int .i64 0] 6) 3)).heap.size by show w.heap.size < (w.heap.push _).size; rw [Array.size_push]; omega)
  clear hst
  obtain ⟨zs, hzs⟩ : ∃ z, z = List.replicate 6 (0 : Int) := ⟨_, rfl⟩
  have hzl : zs.length = 6 := by rw [hzs]; rfl
  rw [← hzs] at HST ⊢
  clear hzs
  have HZL := Aside0.mk hzl
  clear hzl
  go_enter Try.func77, Try.ntmps77
  go_wp2_with (go_at_call 120; refine (HKK.out _ HB0.out).mono ?_; rintro e w1 ⟨v, rfl, hS, hb⟩; obtain ⟨A1, c1, rfl⟩ := Kd.R_slice (Kd.S_R hS); have hln := (Kd.R_reads' (Kd.S_R hS)).2.2.2.1; have HS := Aside0.mk hS; have HI := Aside0.mk (show intBlk w1 w.heap.size zs from blk_below HST.out hb); have HB1 := Aside0.mk (below_step HB0.out hb); clear hS hb)
  go_loopg [5, 7, 12] K.length (fun gg s5 s7 s12 wr => ∃ i : Nat, i ≤ K.length ∧ K.length - i ≤ gg ∧ s12 = .int .i64 i ∧ Aside0 (intBlk wr w.heap.size (cTo K zs i)) ∧ Aside0 (Kept w1 wr (fun k => k = w.heap.size)) ∧ Aside0 (Below w.heap.size w wr))
  case atStart => exact ⟨0, Nat.zero_le _, Nat.le_refl _, rfl, HI, ⟨Kept.refl _ _⟩, HB1⟩
  case round =>
    clear HI HB1 HST HB0 HKK
    obtain ⟨i, hi, hg, rfl, HI, HKP, HB⟩ := hrel
    obtain ⟨wo, rfl⟩ : ∃ wo : World, wo = wr := ⟨_, rfl⟩
    by_cases hlt : i < K.length
    · have hz : (i : Int) < (K.length : Int) := by omega
      obtain ⟨g0, A2, c2, e0, hrow⟩ := rowKept HS.out HSZ.out i hlt
      cases e0
      have HR := Aside0.mk hrow
      have hx := (hrow _ HKP.out).1
      have HKR2 := Aside0.mk (fun j => HKR.out i j hlt)
      have HNX := Aside0.mk (cTo_succ K zs i hlt)
      clear hrow
      obtain ⟨row, hrw⟩ : ∃ r, r = K.getD i [] := ⟨_, rfl⟩
      rw [← hrw] at HR hx HKR2 HNX
      clear hrw
      have hrl := (HR.out _ HKP.out).2.2.2.1
      go_wp2
      go_loopg [7, 18] row.length (fun gj s7 s18 wr2 => ∃ j : Nat, j ≤ row.length ∧ row.length - j ≤ gj ∧ s18 = .int .i64 j ∧ Aside0 (intBlk wr2 w.heap.size (cntRow (row.take j) (cTo K zs i))) ∧ Aside0 (Kept w1 wr2 (fun k => k = w.heap.size)) ∧ Aside0 (Below w.heap.size w wr2))
      case atStart => exact ⟨0, Nat.zero_le _, Nat.le_refl _, rfl, HI, HKP, HB⟩
      case round =>
        clear HI HKP HB hx
        obtain ⟨j, hj, hgj, rfl, HI, HKP, HB⟩ := hrel
        by_cases hjt : j < row.length
        · have hjz : (j : Int) < (row.length : Int) := by omega
          obtain ⟨ad, e1, hy⟩ := Kd.at_int (HR.out _ HKP.out).2.2 (j : Int) (by omega) hjz
          cases e1
          simp only [Int.toNat_natCast] at hy
          have hxr := HKR2.out j hjt
          have HC1 := Aside0.mk (cntRow_succ row (cTo K zs i) j hjt)
          obtain ⟨x, hxx⟩ : ∃ x, x = rd row j := ⟨_, rfl⟩
          rw [← hxx] at hy hxr HC1
          clear hxx
          obtain ⟨n, rfl⟩ := Int.eq_ofNat_of_zero_le hxr.1
          obtain ⟨cs, hcs⟩ : ∃ c, c = cntRow (row.take j) (cTo K zs i) := ⟨_, rfl⟩
          have hcl : cs.length = 6 := by rw [hcs, cntRow_length, cTo_length, HZL.out]
          rw [← hcs] at HI HC1
          clear hcs
          have hn6 : n < 6 := by omega
          have hn6z : (n : Int) < 6 := by omega
          have hcell := (blk_cell HI.out n).trans (show ((cs.map (Value.int .i64)).toArray[n]?) = some (.int .i64 (rd cs n)) by simp [rd, List.getD_eq_getElem?_getD, show n < cs.length by omega])
          have hfz := blk_frozen HI.out n
          have HP := Aside0.mk (show intBlk (wr.setCell ⟨w.heap.size, n, none⟩ (.int .i64 (wrap64 (rd cs n + 1)))) w.heap.size (cnt1 cs n) from blk_put HI.out n _ (by simp [cnt1]))
          have HK2 := Aside0.mk (HKP.out.setCell (p := ⟨w.heap.size, n, none⟩) (.inl rfl) (.int .i64 (wrap64 (rd cs n + 1))))
          have HB2 := Aside0.mk (HB.out.setCell (show w.heap.size ≤ (⟨w.heap.size, n, none⟩ : Addr).block from Nat.le_refl _) (.int .i64 (wrap64 (rd cs n + 1))))
          clear hxr hcl
          go_wp2
          go_roundg (row.length - (j + 1))
          case measure => omega
          case rel => exact ⟨j + 1, by omega, by omega, by go_num, by rw [HC1.out]; exact HP, HK2, HB2⟩
        · have hjz : ¬ (j : Int) < (row.length : Int) := by omega
          have hjc : row.length ≤ j := by omega
          rw [List.take_of_length_le hjc, ← HNX.out] at HI
          go_wp2
          go_roundg (K.length - (i + 1))
          case measure => omega
          case rel => exact ⟨i + 1, by omega, by omega, by go_num, HI, HKP, HB⟩
    · have hz : ¬ (i : Int) < (K.length : Int) := by omega
      have hir : K.length ≤ i := by omega
      rw [cTo_end K zs i hir] at HI
      have hR := intBlk_R (ok := fun _ => True) HI.out (Nat.le_refl _) trivial (by rw [cntAll_length, HZL.out]; omega)
      rw [cntAll_length, HZL.out] at hR
      have HRR := Aside0.mk hR
      clear hR
      go_wp2
      go_ret
      exact ⟨_, rfl, HRR.out, HB.out⟩

set_option maxHeartbeats 4000000 in
set_option maxRecDepth 100000 in
theorem impl_kindCounts.callsG (A0 : Option Addr) (c0 : Nat) (l0 K : List (List Int)) (w : World)
    (hk : ∀ W, Below w.heap.size w W → Calls Try.prog 146 #[.slice A0 l0.length c0] W fun e w' => ∃ v0_ : Value, e = .returned (v0_) ∧ Kd.S (Kd.slice 3 (Kd.int .i64)) 22 w' W.heap.size (fun _ => True) v0_ K ∧ Below W.heap.size W w')
    (hK : ∀ i j : Nat, i < K.length → j < (K.getD i []).length → 0 ≤ rd (K.getD i []) j ∧ rd (K.getD i []) j < 6) :
    Calls Try.prog 117 #[.slice A0 l0.length c0] w (RetR w (cntAll K (List.replicate 6 0))) := by
  have HKK := Aside0.mk hk
  have HKR := Aside0.mk hK
  clear hk hK
  have mk1 : ∀ W : World, Sem.run Try.prog (Instr.makeSlice 22 (.int .i64 6) (.int .i64 6)) W = Result.ok (Value.slice (some ⟨W.heap.size, 0, none⟩) 6 6) (W.alloc (.cells (madeCells #[.int .i64 0] 6) 3)) := fun W => run_make_row' (P := Try.prog) 22 3 (.int .i64 0) 8 Try.underlying22 info_ints rfl .i64 .i64 6 (by omega) (by omega) W
  have hst : intBlk (w.alloc (.cells (madeCells #[.int .i64 0] 6) 3)) w.heap.size (List.replicate 6 0) := by unfold intBlk; have := blk_new w (.cells (madeCells #[.int .i64 0] 6) 3); rw [madeInts] at this ⊢; exact this
  have HST := Aside0.mk hst
  have HB0 := Aside0.mk (below_alloc (Below.refl w.heap.size w) (.cells (madeCells #[.int .i64 0] 6) 3))
  have HSZ := Aside0.mk (show w.heap.size < (w.alloc (.cells (madeCells #[.int .i64 0] 6) 3)).heap.size by show w.heap.size < (w.heap.push _).size; rw [Array.size_push]; omega)
  clear hst
  obtain ⟨zs, hzs⟩ : ∃ z, z = List.replicate 6 (0 : Int) := ⟨_, rfl⟩
  have hzl : zs.length = 6 := by rw [hzs]; rfl
  rw [← hzs] at HST ⊢
  clear hzs
  have HZL := Aside0.mk hzl
  clear hzl
  go_enter Try.func117, Try.ntmps117
  go_wp2_with (go_at_call 146; refine (HKK.out _ HB0.out).mono ?_; rintro e w1 ⟨v, rfl, hS, hb⟩; obtain ⟨A1, c1, rfl⟩ := Kd.R_slice (Kd.S_R hS); have hln := (Kd.R_reads' (Kd.S_R hS)).2.2.2.1; have HS := Aside0.mk hS; have HI := Aside0.mk (show intBlk w1 w.heap.size zs from blk_below HST.out hb); have HB1 := Aside0.mk (below_step HB0.out hb); clear hS hb)
  go_loopg [5, 7, 12] K.length (fun gg s5 s7 s12 wr => ∃ i : Nat, i ≤ K.length ∧ K.length - i ≤ gg ∧ s12 = .int .i64 i ∧ Aside0 (intBlk wr w.heap.size (cTo K zs i)) ∧ Aside0 (Kept w1 wr (fun k => k = w.heap.size)) ∧ Aside0 (Below w.heap.size w wr))
  case atStart => exact ⟨0, Nat.zero_le _, Nat.le_refl _, rfl, HI, ⟨Kept.refl _ _⟩, HB1⟩
  case round =>
    clear HI HB1 HST HB0 HKK
    obtain ⟨i, hi, hg, rfl, HI, HKP, HB⟩ := hrel
    obtain ⟨wo, rfl⟩ : ∃ wo : World, wo = wr := ⟨_, rfl⟩
    by_cases hlt : i < K.length
    · have hz : (i : Int) < (K.length : Int) := by omega
      obtain ⟨g0, A2, c2, e0, hrow⟩ := rowKept HS.out HSZ.out i hlt
      cases e0
      have HR := Aside0.mk hrow
      have hx := (hrow _ HKP.out).1
      have HKR2 := Aside0.mk (fun j => HKR.out i j hlt)
      have HNX := Aside0.mk (cTo_succ K zs i hlt)
      clear hrow
      obtain ⟨row, hrw⟩ : ∃ r, r = K.getD i [] := ⟨_, rfl⟩
      rw [← hrw] at HR hx HKR2 HNX
      clear hrw
      have hrl := (HR.out _ HKP.out).2.2.2.1
      go_wp2
      go_loopg [7, 18] row.length (fun gj s7 s18 wr2 => ∃ j : Nat, j ≤ row.length ∧ row.length - j ≤ gj ∧ s18 = .int .i64 j ∧ Aside0 (intBlk wr2 w.heap.size (cntRow (row.take j) (cTo K zs i))) ∧ Aside0 (Kept w1 wr2 (fun k => k = w.heap.size)) ∧ Aside0 (Below w.heap.size w wr2))
      case atStart => exact ⟨0, Nat.zero_le _, Nat.le_refl _, rfl, HI, HKP, HB⟩
      case round =>
        clear HI HKP HB hx
        obtain ⟨j, hj, hgj, rfl, HI, HKP, HB⟩ := hrel
        by_cases hjt : j < row.length
        · have hjz : (j : Int) < (row.length : Int) := by omega
          obtain ⟨ad, e1, hy⟩ := Kd.at_int (HR.out _ HKP.out).2.2 (j : Int) (by omega) hjz
          cases e1
          simp only [Int.toNat_natCast] at hy
          have hxr := HKR2.out j hjt
          have HC1 := Aside0.mk (cntRow_succ row (cTo K zs i) j hjt)
          obtain ⟨x, hxx⟩ : ∃ x, x = rd row j := ⟨_, rfl⟩
          rw [← hxx] at hy hxr HC1
          clear hxx
          obtain ⟨n, rfl⟩ := Int.eq_ofNat_of_zero_le hxr.1
          obtain ⟨cs, hcs⟩ : ∃ c, c = cntRow (row.take j) (cTo K zs i) := ⟨_, rfl⟩
          have hcl : cs.length = 6 := by rw [hcs, cntRow_length, cTo_length, HZL.out]
          rw [← hcs] at HI HC1
          clear hcs
          have hn6 : n < 6 := by omega
          have hn6z : (n : Int) < 6 := by omega
          have hcell := (blk_cell HI.out n).trans (show ((cs.map (Value.int .i64)).toArray[n]?) = some (.int .i64 (rd cs n)) by simp [rd, List.getD_eq_getElem?_getD, show n < cs.length by omega])
          have hfz := blk_frozen HI.out n
          have HP := Aside0.mk (show intBlk (wr.setCell ⟨w.heap.size, n, none⟩ (.int .i64 (wrap64 (rd cs n + 1)))) w.heap.size (cnt1 cs n) from blk_put HI.out n _ (by simp [cnt1]))
          have HK2 := Aside0.mk (HKP.out.setCell (p := ⟨w.heap.size, n, none⟩) (.inl rfl) (.int .i64 (wrap64 (rd cs n + 1))))
          have HB2 := Aside0.mk (HB.out.setCell (show w.heap.size ≤ (⟨w.heap.size, n, none⟩ : Addr).block from Nat.le_refl _) (.int .i64 (wrap64 (rd cs n + 1))))
          clear hxr hcl
          go_wp2
          go_roundg (row.length - (j + 1))
          case measure => omega
          case rel => exact ⟨j + 1, by omega, by omega, by go_num, by rw [HC1.out]; exact HP, HK2, HB2⟩
        · have hjz : ¬ (j : Int) < (row.length : Int) := by omega
          have hjc : row.length ≤ j := by omega
          rw [List.take_of_length_le hjc, ← HNX.out] at HI
          go_wp2
          go_roundg (K.length - (i + 1))
          case measure => omega
          case rel => exact ⟨i + 1, by omega, by omega, by go_num, HI, HKP, HB⟩
    · have hz : ¬ (i : Int) < (K.length : Int) := by omega
      have hir : K.length ≤ i := by omega
      rw [cTo_end K zs i hir] at HI
      have hR := intBlk_R (ok := fun _ => True) HI.out (Nat.le_refl _) trivial (by rw [cntAll_length, HZL.out]; omega)
      rw [cntAll_length, HZL.out] at hR
      have HRR := Aside0.mk hR
      clear hR
      go_wp2
      go_ret
      exact ⟨_, rfl, HRR.out, HB.out⟩
end Go.Proofs.Ytdcdkckpmkfjdaa

-- Written by a program of this session (wip/mkprint.py): out of the translation; Lean checks it.
namespace Go.Proofs.Ytdcdkckpmkfjdaa.P
open Go.RowKit Go.Proofs.YtdcdkckpmkfjdaaW.PrintWords Go.Proofs.YtdcdkckpmkfjdaaW.PrintLast Go.Proofs.YtdcdkckpmkfjdaaW.PrintMore
attribute [local go_sem] max2_int min2_int max_two min_two max_three min_three max_four min_four   -- for this text's walks alone
set_option linter.unusedVariables false
set_option linter.unusedSimpArgs false

/-! ### spec_weKinds: function 120 -/
mutual
def spec_weKinds.l0 : Nat → List (List Int) → List Int → List (List Int) → Int → Int → Option ((List (List Int)))
  | 0, _, _, _, _, _ => none
  | k + 1, x3, x4, x14, x15, x16 => if x16 < x15 then (if 0 ≤ x16 then (if x16 < (x14.length : Int) then (spec_weKinds.l1 k x3 x4 ([] : List Int) 0 x14 x15 x16 (rd_L1 x14 x16) ((rd_L1 x14 x16).length : Int) 0) else (none)) else (none)) else (some x3)
def spec_weKinds.l1 : Nat → List (List Int) → List Int → List Int → Int → List (List Int) → Int → Int → List Int → Int → Int → Option ((List (List Int)))
  | 0, _, _, _, _, _, _, _, _, _, _ => none
  | k + 1, x3, x4, x7, x8, x14, x15, x16, x20, x21, x22 => if x22 < x21 then (if 0 ≤ x22 then (if x22 < (x20.length : Int) then (if (rd x20 x22) = 1 then (if x7.length < 17592186044416 then (if x22 < (x4.length : Int) then (spec_weKinds.l1 k x3 (x4.set (x22 : Int).toNat (wrap64 ((rd x4 x22) + (rd x20 x22)))) (x7 ++ [4]) (wrap64 (x8 + (rd x20 x22))) x14 x15 x16 x20 x21 (wrap64 (x22 + 1))) else (none)) else (none)) else (if (rd x20 x22) = (-1) then (if x7.length < 17592186044416 then (if x22 < (x4.length : Int) then (spec_weKinds.l1 k x3 (x4.set (x22 : Int).toNat (wrap64 ((rd x4 x22) + (rd x20 x22)))) (x7 ++ [5]) (wrap64 (x8 + (rd x20 x22))) x14 x15 x16 x20 x21 (wrap64 (x22 + 1))) else (none)) else (none)) else (if x22 < (x4.length : Int) then (if x7.length < 17592186044416 then (spec_weKinds.l1 k x3 (x4.set (x22 : Int).toNat (wrap64 ((rd x4 x22) + (rd x20 x22)))) (x7 ++ [wrap64 ((wrap64 (2 * x8)) + (rd x4 x22))]) (wrap64 (x8 + (rd x20 x22))) x14 x15 x16 x20 x21 (wrap64 (x22 + 1))) else (none)) else (none)))) else (none)) else (none)) else (if x3.length < 5864062014805 then (spec_weKinds.l0 k (x3 ++ [x7]) x4 x14 x15 (wrap64 (x16 + 1))) else (none))
end
def spec_weKinds.f (k : Nat) (l0 : List (List Int)) : Option ((List (List Int))) := if 0 ≤ (l0.length : Int) then (if ((l0.length : Int) : Int).toNat ≤ 35184372088832 then (spec_weKinds.l0 k ([] : List (List Int)) (List.replicate ((l0.length : Int) : Int).toNat 0) l0 (l0.length : Int) 0) else (none)) else (none)
theorem spec_weKinds.mono_l : ∀ k, (∀ y0 y1 y2 y3 y4, LeO (spec_weKinds.l0 k y0 y1 y2 y3 y4) (spec_weKinds.l0 (k + 1) y0 y1 y2 y3 y4)) ∧ (∀ y0 y1 y2 y3 y4 y5 y6 y7 y8 y9, LeO (spec_weKinds.l1 k y0 y1 y2 y3 y4 y5 y6 y7 y8 y9) (spec_weKinds.l1 (k + 1) y0 y1 y2 y3 y4 y5 y6 y7 y8 y9))
  | 0 => ⟨fun _ _ _ _ _ r h => by simp [spec_weKinds.l0] at h, fun _ _ _ _ _ _ _ _ _ _ r h => by simp [spec_weKinds.l1] at h⟩
  | k + 1 => by
    obtain ⟨ih0, ih1⟩ := spec_weKinds.mono_l k
    refine ⟨?_, ?_⟩
    · intro y0 y1 y2 y3 y4
      unfold spec_weKinds.l0
      repeat' first
      | (with_reducible exact ih0 _ _ _ _ _)
      | (with_reducible exact ih1 _ _ _ _ _ _ _ _ _ _)
      | (with_reducible exact LeO.refl _)
      | (with_reducible exact LeO.none _)
      | (with_reducible refine LeO.ite ?_ ?_)
      | (with_reducible refine LeO.bind ?_ (fun _ => ?_))
      | exact ih0 _ _ _ _ _
      | exact ih1 _ _ _ _ _ _ _ _ _ _
      | exact LeO.none _
      | refine LeO.ite ?_ ?_
      | refine LeO.bind ?_ (fun _ => ?_)
    · intro y0 y1 y2 y3 y4 y5 y6 y7 y8 y9
      unfold spec_weKinds.l1
      repeat' first
      | (with_reducible exact ih0 _ _ _ _ _)
      | (with_reducible exact ih1 _ _ _ _ _ _ _ _ _ _)
      | (with_reducible exact LeO.refl _)
      | (with_reducible exact LeO.none _)
      | (with_reducible refine LeO.ite ?_ ?_)
      | (with_reducible refine LeO.bind ?_ (fun _ => ?_))
      | exact ih0 _ _ _ _ _
      | exact ih1 _ _ _ _ _ _ _ _ _ _
      | exact LeO.none _
      | refine LeO.ite ?_ ?_
      | refine LeO.bind ?_ (fun _ => ?_)
theorem spec_weKinds.mono : ∀ a0 k, LeO (spec_weKinds.f k a0) (spec_weKinds.f (k + 1) a0) := by
  intro a0 k
  obtain ⟨ih0, ih1⟩ := spec_weKinds.mono_l k
  unfold spec_weKinds.f
  repeat' first
      | (with_reducible exact ih0 _ _ _ _ _)
      | (with_reducible exact ih1 _ _ _ _ _ _ _ _ _ _)
      | (with_reducible exact LeO.refl _)
      | (with_reducible exact LeO.none _)
      | (with_reducible refine LeO.ite ?_ ?_)
      | (with_reducible refine LeO.bind ?_ (fun _ => ?_))
      | exact ih0 _ _ _ _ _
      | exact ih1 _ _ _ _ _ _ _ _ _ _
      | exact LeO.none _
      | refine LeO.ite ?_ ?_
      | refine LeO.bind ?_ (fun _ => ?_)
set_option maxHeartbeats 8000000 in
set_option maxRecDepth 100000 in
theorem spec_weKinds.calls (k : Nat) (A0 : Option Addr) (c0 : Nat) (l0 : List (List Int)) (r : List (List Int)) (w : World) (hr0 : Kd.C (Kd.slice 3 (Kd.int .i64)) w A0 l0.length l0) (hc0 : l0.length ≤ c0) (h : spec_weKinds.f k l0 = some r) :
    Calls Try.prog 120 #[.slice A0 l0.length c0] w fun e w' => ∃ v0_ : Value, e = .returned (v0_) ∧ Kd.S (Kd.slice 3 (Kd.int .i64)) 22 w' w.heap.size (fun _ => True) v0_ r ∧ Below w.heap.size w w' := by
  have HR0 := Aside0.mk hr0
  have HC0 := Aside0.mk hc0
  clear hr0 hc0
  have HB := Aside0.mk (Below.refl w.heap.size w)
  have H : (if 0 ≤ (l0.length : Int) then (if ((l0.length : Int) : Int).toNat ≤ 35184372088832 then (spec_weKinds.l0 k ([] : List (List Int)) (List.replicate ((l0.length : Int) : Int).toNat 0) l0 (l0.length : Int) 0) else (none)) else (none)) = some r := h
  clear h
  by_cases c2 : 0 ≤ (l0.length : Int)
  · rw [if_pos c2] at H
    have c2b0 := eq_true c2
    have c2b1 : decide (0 ≤ (l0.length : Int)) = true := decide_eq_true c2
    clear c2
    by_cases c3 : ((l0.length : Int) : Int).toNat ≤ 35184372088832
    · rw [if_pos c3] at H
      have c3b0 := eq_true c3
      have c3b1 : decide (((l0.length : Int) : Int).toNat ≤ 35184372088832) = true := decide_eq_true c3
      clear c3
      obtain ⟨y181, hy181⟩ : ∃ y_ : List Int, y_ = (List.replicate ((l0.length : Int) : Int).toNat 0) := ⟨_, rfl⟩
      replace H : (spec_weKinds.l0 k ([] : List (List Int)) y181 l0 (l0.length : Int) 0) = some r := by first | (rw [hy181]; with_reducible exact H) | (have H2_ := (Option.bind_some _ _).symm.trans H; rw [hy181]; with_reducible exact H2_) | (have H2_ := (Option.bind_some _ _).symm.trans H; with_reducible exact H2_) | with_reducible exact H | (rw [hy181]; exact H) | exact H
      have Ny181 := Aside0.mk hy181
      clear hy181
      have H' := Aside0.mk H
      clear H
      go_enter Try.func120, Try.ntmps120
      go_wp2_with (first | ((with_reducible refine gate_dst (N := 13) rfl ?_); refine Kd.R_make (Kd.int .i64) _ 3 rfl (N := 13) rfl 22 _ _ rfl (l0.length : Int) rfl rfl Try.underlying22 (.int .i64 0) 8 info3 rfl (by decide) (by omega) 0 (ok := fun _ => True) (okp := fun _ => True) rfl (fun _ hk => hk) trivial (of_decide_eq_true (by first | (with_reducible assumption) | assumption)) (Nat.le_trans (Nat.mul_le_mul_right _ (of_decide_eq_true (by first | (with_reducible assumption) | assumption) : (l0.length : Int).toNat ≤ 35184372088832)) (by omega)) (Below.refl _ _) (Nat.le_refl _) ?_; intro v182 w4 ho5 hb hg_ hnew_; clear hg_ hnew_; (first | rw [← Ny181.out] at ho5 | (simp only [Int.reduceToNat] at ho5; rw [← Ny181.out] at ho5)); have n0_ := Aside0.mk (Kd.R_lower ho5 (below_size (by repeat (first | (with_reducible first | exact HB.out | apply below_alloc | apply pw_below_drewN | apply below_drew1) | exact HB.out)))); have n1_ := Aside0.mk (below_step (by repeat (first | (with_reducible first | exact HB.out | apply below_alloc | apply pw_below_drewN | apply below_drew1) | exact HB.out)) hb); clear HB; have HO183 := n0_; have HB := n1_; clear n0_ n1_; clear hb ho5))
      go_loopg [3, 16] k (fun kq v3 v16 w' => ∃ (x3_1 : List (List Int)) (x4_1 : List Int) (x16_1 : Int), v16 = .int .i64 x16_1 ∧ Aside0 (spec_weKinds.l0 kq x3_1 x4_1 l0 (l0.length : Int) x16_1 = some r) ∧ Aside0 (kq ≤ k) ∧ Aside0 (Kd.S (Kd.slice 3 (Kd.int .i64)) 22 w' w.heap.size (fun k_ => some k_ ≠ (v182 : Value).ownBlock) v3 x3_1) ∧ Aside0 (Kd.R (Kd.int .i64) 3 w' w.heap.size (fun _ => True) v182 x4_1) ∧ Aside0 (Below w.heap.size w w'))
      case atStart => exact ⟨(([] : List (List Int))), (y181), (0), (by first | rfl | (simp; done) | (simp [*]; done)), H', ⟨Nat.le_refl _⟩, ⟨by first | exact Kd.S_nil _ _ _ _ _ | exact Kd.N_nil _ _ _ _ _ | exact Kd.V_nil _ _ _ _ _ | exact Kd.Q_nil _ _ _ _ _ | exact Kd.R_nil _ _ _ _ _⟩, ⟨by (with_reducible repeat (first | apply Kd.R_alloc | apply Kd.R_drewN | apply Kd.R_drew)); exact HO183.out⟩, ⟨by repeat (first | (with_reducible first | exact HB.out | apply below_alloc | apply pw_below_drewN | apply below_drew1) | exact HB.out)⟩⟩
      case round =>
        clear H'
        try clear c1
        try clear c2
        try clear c2b0
        try clear c2b1
        try clear p2
        try clear c3
        try clear c3b0
        try clear c3b1
        obtain ⟨x3_1, x4_1, x16_1, rfl, HA, HK1, HO_3, HO_4, HB⟩ := hrel
        cases gk with
        | zero => exact absurd HA.out (by simp [spec_weKinds.l0])
        | succ k1 =>
          have H := HA.out
          clear HA
          simp only [spec_weKinds.l0] at H
          by_cases c6 : x16_1 < (l0.length : Int)
          · rw [if_pos c6] at H
            have c6b0 : decide (x16_1 < (l0.length : Int)) = true := decide_eq_true c6
            clear c6
            by_cases c7 : 0 ≤ x16_1
            · rw [if_pos c7] at H
              have c7b0 : decide (0 ≤ x16_1) = true := decide_eq_true c7
              clear c7
              by_cases c8 : x16_1 < (l0.length : Int)
              · rw [if_pos c8] at H
                have c8b0 : decide (x16_1 < (l0.length : Int)) = true := decide_eq_true c8
                clear c8
                have H' := Aside0.mk H
                clear H
                have p184 : 0 ≤ (x16_1 : Int) := of_decide_eq_true (by first | (with_reducible assumption) | assumption)
                have q184 : x16_1 < (l0.length : Int) := of_decide_eq_true (by first | (with_reducible assumption) | assumption)
                obtain ⟨ad184, A184_0, c184_0, e184, hx184_0, hl184_0, hi184_0⟩ := at_L1 HR0.out x16_1 p184 q184
                cases e184
                (try replace hx184_0 := (HB.out.cell (World.block_lt_of_cell? w _ hx184_0)).trans hx184_0)
                have HR184_0 := Aside0.mk hi184_0
                have HC184_0 := Aside0.mk hl184_0
                clear hi184_0 hl184_0
                replace p184 := eq_true p184
                replace q184 := eq_true q184
                go_wp2
                go_loopg [7, 8, 22] k1 (fun kq v7 v8 v22 w' => ∃ (x4_2 : List Int) (x7_2 : List Int) (x8_2 : Int) (x22_2 : Int), v8 = .int .i64 x8_2 ∧ v22 = .int .i64 x22_2 ∧ Aside0 (spec_weKinds.l1 kq x3_1 x4_2 x7_2 x8_2 l0 (l0.length : Int) x16_1 (rd_L1 l0 x16_1) ((rd_L1 l0 x16_1).length : Int) x22_2 = some r) ∧ Aside0 (kq ≤ k1) ∧ Aside0 (Kd.S (Kd.slice 3 (Kd.int .i64)) 22 w' w.heap.size (fun k_ => some k_ ≠ (v182 : Value).ownBlock ∧ some k_ ≠ (v7 : Value).ownBlock) u3 x3_1) ∧ Aside0 (Kd.R (Kd.int .i64) 3 w' w.heap.size (fun k_ => some k_ ≠ (v7 : Value).ownBlock) v182 x4_2) ∧ Aside0 (Kd.R (Kd.int .i64) 3 w' w.heap.size (fun k_ => some k_ ≠ (v182 : Value).ownBlock) v7 x7_2) ∧ Aside0 (Below w.heap.size w w'))
                case atStart => exact ⟨(x4_1), (([] : List Int)), (0), (0), (by first | rfl | (simp; done) | (simp [*]; done)), (by first | rfl | (simp; done) | (simp [*]; done)), H', ⟨Nat.le_refl _⟩, ⟨by (with_reducible repeat (first | apply Kd.S_alloc | apply Kd.S_drewN | apply Kd.S_drew)); exact Kd.S_mono HO_3.out (fun _ hk => ⟨hk, (by simp [Value.ownBlock])⟩)⟩, ⟨by (with_reducible repeat (first | apply Kd.R_alloc | apply Kd.R_drewN | apply Kd.R_drew)); exact Kd.R_mono HO_4.out (fun _ hk => (by simp [Value.ownBlock]))⟩, ⟨by first | exact Kd.R_nil _ _ _ _ _ | exact Kd.N_nil _ _ _ _ _ | exact Kd.V_nil _ _ _ _ _ | exact Kd.Q_nil _ _ _ _ _ | exact Kd.S_nil _ _ _ _ _⟩, ⟨by repeat (first | (with_reducible first | exact HB.out | apply below_alloc | apply pw_below_drewN | apply below_drew1) | exact HB.out)⟩⟩
                case round =>
                  clear H'
                  try clear c1
                  try clear p1
                  try clear q1
                  try clear hx1
                  try clear c2
                  try clear c2b0
                  try clear c2b1
                  try clear p2
                  try clear c3
                  try clear c3b0
                  try clear c3b1
                  try clear c6
                  try clear c6b0
                  try clear c7
                  try clear c7b0
                  try clear c8
                  try clear c8b0
                  try clear hx184_0
                  try clear p184
                  try clear p2
                  try clear q184
                  obtain ⟨x4_2, x7_2, x8_2, x22_2, rfl, rfl, HA, HK2, HO_3, HO_4, HO_7, HB⟩ := hrel
                  cases gk with
                  | zero => exact absurd HA.out (by simp [spec_weKinds.l1])
                  | succ k2 =>
                    have H := HA.out
                    clear HA
                    simp only [spec_weKinds.l1] at H
                    by_cases c9 : x22_2 < ((rd_L1 l0 x16_1).length : Int)
                    · rw [if_pos c9] at H
                      have c9b0 : decide (x22_2 < ((rd_L1 l0 x16_1).length : Int)) = true := decide_eq_true c9
                      clear c9
                      by_cases c10 : 0 ≤ x22_2
                      · rw [if_pos c10] at H
                        have c10b0 : decide (0 ≤ x22_2) = true := decide_eq_true c10
                        clear c10
                        by_cases c11 : x22_2 < ((rd_L1 l0 x16_1).length : Int)
                        · rw [if_pos c11] at H
                          have c11b0 : decide (x22_2 < ((rd_L1 l0 x16_1).length : Int)) = true := decide_eq_true c11
                          clear c11
                          by_cases c12 : (rd (rd_L1 l0 x16_1) x22_2) = 1
                          · rw [if_pos c12] at H
                            have c12b0 : ((rd (rd_L1 l0 x16_1) x22_2) == 1) = true := beq_iff_eq.mpr c12
                            have c12b1 : ((rd (rd_L1 l0 x16_1) x22_2) != 1) = false := bne_eq_false_iff_eq.mpr c12
                            clear c12
                            by_cases c13 : x7_2.length < 17592186044416
                            · rw [if_pos c13] at H
                              have LMc13 := Aside0.mk c13
                              clear c13
                              obtain ⟨y189, hy189⟩ : ∃ y_ : List Int, y_ = (x7_2 ++ [4]) := ⟨_, rfl⟩
                              replace H : (if x22_2 < (x4_2.length : Int) then (spec_weKinds.l1 k2 x3_1 (x4_2.set (x22_2 : Int).toNat (wrap64 ((rd x4_2 x22_2) + (rd (rd_L1 l0 x16_1) x22_2)))) y189 (wrap64 (x8_2 + (rd (rd_L1 l0 x16_1) x22_2))) l0 (l0.length : Int) x16_1 (rd_L1 l0 x16_1) ((rd_L1 l0 x16_1).length : Int) (wrap64 (x22_2 + 1))) else (none)) = some r := by first | (rw [hy189]; with_reducible exact H) | (have H2_ := (Option.bind_some _ _).symm.trans H; rw [hy189]; with_reducible exact H2_) | (have H2_ := (Option.bind_some _ _).symm.trans H; with_reducible exact H2_) | with_reducible exact H | (rw [hy189]; exact H) | exact H
                              have Ny189 := Aside0.mk hy189
                              clear hy189
                              by_cases c14 : x22_2 < (x4_2.length : Int)
                              · rw [if_pos c14] at H
                                have c14b0 : decide (x22_2 < (x4_2.length : Int)) = true := decide_eq_true c14
                                clear c14
                                obtain ⟨y193, hy193⟩ : ∃ y_ : List Int, y_ = (x4_2.set (x22_2 : Int).toNat (wrap64 ((rd x4_2 x22_2) + (rd (rd_L1 l0 x16_1) x22_2)))) := ⟨_, rfl⟩
                                replace H : (spec_weKinds.l1 k2 x3_1 y193 y189 (wrap64 (x8_2 + (rd (rd_L1 l0 x16_1) x22_2))) l0 (l0.length : Int) x16_1 (rd_L1 l0 x16_1) ((rd_L1 l0 x16_1).length : Int) (wrap64 (x22_2 + 1))) = some r := by first | (rw [hy193]; with_reducible exact H) | (have H2_ := (Option.bind_some _ _).symm.trans H; rw [hy193]; with_reducible exact H2_) | (have H2_ := (Option.bind_some _ _).symm.trans H; with_reducible exact H2_) | with_reducible exact H | (rw [hy193]; exact H) | exact H
                                have Ny193 := Aside0.mk hy193
                                clear hy193
                                have H' := Aside0.mk H
                                clear H
                                have p188 : 0 ≤ (x22_2 : Int) := of_decide_eq_true (by first | (with_reducible assumption) | assumption)
                                have q188 : x22_2 < ((rd_L1 l0 x16_1).length : Int) := of_decide_eq_true (by first | (with_reducible assumption) | assumption)
                                obtain ⟨ad188, e188, hx188_0⟩ := Kd.at_int HR184_0.out x22_2 p188 q188
                                cases e188
                                (try replace hx188_0 := (HB.out.cell (World.block_lt_of_cell? w _ hx188_0)).trans hx188_0)
                                replace p188 := eq_true p188
                                replace q188 := eq_true q188
                                go_wp2_with (first | ((with_reducible refine gate_builtin (b := .append) (xs := #[.tmp 40, .tmp 41]) rfl ?_); at_builtin; refine Kd.R_append (Kd.int .i64) (w0 := w) w.heap.size rfl (.tmp 40) (.tmp 41) 22 3 (.int .i64 0) 8 rfl Try.underlying22 info3 rfl (by decide) (by omega) u7 x7_2 4 [.int .i64 4] (fun k_ => some k_ ≠ (v182 : Value).ownBlock) (fun _ => False) rfl rfl ?aP (fun _ hk => hk.elim) ?aF ?aO ?aB ?aS ?aL ?_; (case aP => exact rfl); (case aB => exact (by repeat (first | (with_reducible first | exact HB.out | apply below_alloc | apply pw_below_drewN | apply below_drew1) | exact HB.out))); (case aF => exact (fun k_ hk => Kd.fresh' (Kd.R_lt (by (with_reducible repeat (first | apply Kd.R_alloc | apply Kd.R_drewN | apply Kd.R_drew)); exact HO_4.out)) k_ hk)); (case aO => exact (by (with_reducible repeat (first | apply Kd.R_alloc | apply Kd.R_drewN | apply Kd.R_drew)); exact HO_7.out)); (case aS => exact (below_size (by repeat (first | (with_reducible first | exact HB.out | apply below_alloc | apply pw_below_drewN | apply below_drew1) | exact HB.out)))); (case aL => have := LMc13.out; omega); intro v190 w16 ho hb hg hat; rw [← Ny189.out] at ho; have n0_ := Aside0.mk (Kd.S_after (ok := (fun k_ => some k_ ≠ (v182 : Value).ownBlock)) (by (with_reducible repeat (first | apply Kd.S_alloc | apply Kd.S_drewN | apply Kd.S_drew)); exact HO_3.out) hg hat); have n1_ := Aside0.mk (Kd.R_after (ok := (fun _ => True)) (by (with_reducible repeat (first | apply Kd.R_alloc | apply Kd.R_drewN | apply Kd.R_drew)); exact Kd.R_mono HO_4.out (fun _ hk => ⟨trivial, hk⟩)) hg hat); have n2_ := Aside0.mk (hb); have n3_ := Aside0.mk (ho); clear HO_3; clear HO_4; clear HB; clear HO_7; have HO_3 := n0_; have HO_4 := n1_; have HB := n2_; have HO191 := n3_; clear n0_ n1_ n2_ n3_; clear ho hb hg hat; obtain ⟨Ao17, co17, eo17⟩ := Kd.R_slice HO_4.out; subst eo17; have p192 : 0 ≤ (x22_2 : Int) := of_decide_eq_true (by first | (with_reducible assumption) | assumption); have q192 : x22_2 < (x4_2.length : Int) := of_decide_eq_true (by first | (with_reducible assumption) | assumption); obtain ⟨ad192, e192, hx192_0⟩ := Kd.at_int (Kd.R_reads' HO_4.out).2.2 x22_2 p192 q192; cases e192; replace p192 := eq_true p192; replace q192 := eq_true q192; have p15 : 0 ≤ (x22_2 : Int) := of_decide_eq_true (by first | (with_reducible assumption) | assumption); have q15 : (x22_2 : Int) < ((x4_2.length : Int) : Int) := of_decide_eq_true (by first | (with_reducible assumption) | assumption); obtain ⟨go15, co15, eo15, gb15, gl15, cl15, HG15⟩ := Kd.R_form HO_4.out (by omega); (first | cases eo15 | (injection eo15 with ea_ en_ ec_; (first | subst ea_ | (injection ea_ with ea_; subst ea_)); subst ec_; clear en_)); have GB15 := Aside0.mk gb15; have GG15 := Aside0.mk HG15; clear gb15 gl15 HG15; (first | simp only [add_plain] at hx192_0 | skip); obtain ⟨hx15_0, hf15_0⟩ := Kd.R_celln 0 HO_4.out (x22_2 : Int) p15 q15; replace p15 := eq_true p15; replace q15 := eq_true q15; have n_ := Aside0.mk (Kd.R_mono (ok' := (fun k_ => some k_ ≠ (v190 : Value).ownBlock)) HO_4.out (fun k_ hk => hk.2)); clear HO_4; have HO_4 := n_; clear n_; obtain ⟨hy18_, hz18_⟩ := Kd.R_celln 0 HO_4.out (x22_2 : Int) (of_decide_eq_true (by first | (with_reducible assumption) | assumption)) (of_decide_eq_true (by first | (with_reducible assumption) | assumption)); have HP18 := Kd.R_putg HO_4.out (x22_2 : Int) (wrap64 ((rd x4_2 x22_2) + (rd (rd_L1 l0 x16_1) x22_2)))) | ((with_reducible refine gate_store (t := 3) (p := 57) rfl ?_); refine store_event (t := 3) (p := 57) (v := ?vo_w19) (w1 := (w16.setCell ⟨go15, (x22_2 : Int).toNat, none⟩ (.int .i64 (wrap64 ((rd x4_2 x22_2) + (rd (rd_L1 l0 x16_1) x22_2)))))) ?hg ?ho ?hn ?hr ?_; (case ho => rfl); (case hg => rfl); (case hn => rfl); (case hr => first | (go_simp; done) | (go_simp; rfl)); intro w19 hw; have hg : w16.grownBy w19 (some go15) := (by rw [hw]; exact HP18.2); have hp_ : Kd.R (Kd.int .i64) 3 w19 w.heap.size (fun k_ => some k_ ≠ (v190 : Value).ownBlock) (.slice (some ⟨go15, 0, none⟩) x4_2.length co17) y193 := (by rw [hw, Ny193.out]; exact HP18.1); clear HP18; have n0_ := Aside0.mk (Kd.S_after (v := (.slice (some ⟨go15, 0, none⟩) x4_2.length co17)) (v1 := (.slice (some ⟨go15, 0, none⟩) x4_2.length co17)) (ok := (fun k_ => some k_ ≠ (v190 : Value).ownBlock)) (by (with_reducible repeat (first | apply Kd.S_alloc | apply Kd.S_drewN | apply Kd.S_drew)); exact Kd.S_mono HO_3.out (fun _ hk => ⟨hk.2, hk.1⟩)) hg (.inl rfl)); have n1_ := Aside0.mk (hp_); have n2_ := Aside0.mk (Kd.R_after (v := (.slice (some ⟨go15, 0, none⟩) x4_2.length co17)) (v1 := (.slice (some ⟨go15, 0, none⟩) x4_2.length co17)) (ok := (fun _ => True)) (by (with_reducible repeat (first | apply Kd.R_alloc | apply Kd.R_drewN | apply Kd.R_drew)); exact Kd.R_mono HO191.out (fun _ hk => ⟨trivial, hk⟩)) hg (.inl rfl)); have n3_ := Aside0.mk ((by rw [hw]; exact below_set (HB.out) GB15.out : Below w.heap.size w w19)); clear HO_3; clear HO_4; clear HO191; clear HB; have HO_3 := n0_; have HO_4 := n1_; have HO191 := n2_; have HB := n3_; clear n0_ n1_ n2_ n3_; clear hg hw hp_))
                                go_roundg k2
                                case measure => have := HK1.out; have := HK2.out; omega
                                case rel => exact ⟨(y193), (y189), (wrap64 (x8_2 + (rd (rd_L1 l0 x16_1) x22_2))), (wrap64 (x22_2 + 1)), (by first | rfl | (simp; done) | (simp [*]; done)), (by first | rfl | (simp; done) | (simp [*]; done)), H', ⟨by have := HK1.out; have := HK2.out; omega⟩, ⟨by (with_reducible repeat (first | apply Kd.S_alloc | apply Kd.S_drewN | apply Kd.S_drew)); exact Kd.S_mono HO_3.out (fun _ hk => ⟨hk.2, hk.1⟩)⟩, ⟨by (with_reducible repeat (first | apply Kd.R_alloc | apply Kd.R_drewN | apply Kd.R_drew)); exact HO_4.out⟩, ⟨by (with_reducible repeat (first | apply Kd.R_alloc | apply Kd.R_drewN | apply Kd.R_drew)); exact Kd.R_mono HO191.out (fun _ hk => hk.2)⟩, ⟨by repeat (first | (with_reducible first | exact HB.out | apply below_alloc | apply pw_below_drewN | apply below_drew1) | exact HB.out)⟩⟩
                              · rw [if_neg c14] at H
                                exact absurd H (by simp)
                            · rw [if_neg c13] at H
                              exact absurd H (by simp)
                          · rw [if_neg c12] at H
                            have c12b0 : ((rd (rd_L1 l0 x16_1) x22_2) == 1) = false := beq_eq_false_iff_ne.mpr c12
                            have c12b1 : ((rd (rd_L1 l0 x16_1) x22_2) != 1) = true := bne_iff_ne.mpr c12
                            by_cases c20 : (rd (rd_L1 l0 x16_1) x22_2) = (-1)
                            · rw [if_pos c20] at H
                              have c20b0 : ((rd (rd_L1 l0 x16_1) x22_2) == (-1)) = true := beq_iff_eq.mpr c20
                              have c20b1 : ((rd (rd_L1 l0 x16_1) x22_2) != (-1)) = false := bne_eq_false_iff_eq.mpr c20
                              clear c20
                              by_cases c21 : x7_2.length < 17592186044416
                              · rw [if_pos c21] at H
                                have LMc21 := Aside0.mk c21
                                clear c21
                                obtain ⟨y194, hy194⟩ : ∃ y_ : List Int, y_ = (x7_2 ++ [5]) := ⟨_, rfl⟩
                                replace H : (if x22_2 < (x4_2.length : Int) then (spec_weKinds.l1 k2 x3_1 (x4_2.set (x22_2 : Int).toNat (wrap64 ((rd x4_2 x22_2) + (rd (rd_L1 l0 x16_1) x22_2)))) y194 (wrap64 (x8_2 + (rd (rd_L1 l0 x16_1) x22_2))) l0 (l0.length : Int) x16_1 (rd_L1 l0 x16_1) ((rd_L1 l0 x16_1).length : Int) (wrap64 (x22_2 + 1))) else (none)) = some r := by first | (rw [hy194]; with_reducible exact H) | (have H2_ := (Option.bind_some _ _).symm.trans H; rw [hy194]; with_reducible exact H2_) | (have H2_ := (Option.bind_some _ _).symm.trans H; with_reducible exact H2_) | with_reducible exact H | (rw [hy194]; exact H) | exact H
                                have Ny194 := Aside0.mk hy194
                                clear hy194
                                by_cases c22 : x22_2 < (x4_2.length : Int)
                                · rw [if_pos c22] at H
                                  have c22b0 : decide (x22_2 < (x4_2.length : Int)) = true := decide_eq_true c22
                                  clear c22
                                  obtain ⟨y198, hy198⟩ : ∃ y_ : List Int, y_ = (x4_2.set (x22_2 : Int).toNat (wrap64 ((rd x4_2 x22_2) + (rd (rd_L1 l0 x16_1) x22_2)))) := ⟨_, rfl⟩
                                  replace H : (spec_weKinds.l1 k2 x3_1 y198 y194 (wrap64 (x8_2 + (rd (rd_L1 l0 x16_1) x22_2))) l0 (l0.length : Int) x16_1 (rd_L1 l0 x16_1) ((rd_L1 l0 x16_1).length : Int) (wrap64 (x22_2 + 1))) = some r := by first | (rw [hy198]; with_reducible exact H) | (have H2_ := (Option.bind_some _ _).symm.trans H; rw [hy198]; with_reducible exact H2_) | (have H2_ := (Option.bind_some _ _).symm.trans H; with_reducible exact H2_) | with_reducible exact H | (rw [hy198]; exact H) | exact H
                                  have Ny198 := Aside0.mk hy198
                                  clear hy198
                                  have H' := Aside0.mk H
                                  clear H
                                  have p188 : 0 ≤ (x22_2 : Int) := of_decide_eq_true (by first | (with_reducible assumption) | assumption)
                                  have q188 : x22_2 < ((rd_L1 l0 x16_1).length : Int) := of_decide_eq_true (by first | (with_reducible assumption) | assumption)
                                  obtain ⟨ad188, e188, hx188_0⟩ := Kd.at_int HR184_0.out x22_2 p188 q188
                                  cases e188
                                  (try replace hx188_0 := (HB.out.cell (World.block_lt_of_cell? w _ hx188_0)).trans hx188_0)
                                  replace p188 := eq_true p188
                                  replace q188 := eq_true q188
                                  go_wp2_with (first | ((with_reducible refine gate_builtin (b := .append) (xs := #[.tmp 45, .tmp 46]) rfl ?_); at_builtin; refine Kd.R_append (Kd.int .i64) (w0 := w) w.heap.size rfl (.tmp 45) (.tmp 46) 22 3 (.int .i64 0) 8 rfl Try.underlying22 info3 rfl (by decide) (by omega) u7 x7_2 5 [.int .i64 5] (fun k_ => some k_ ≠ (v182 : Value).ownBlock) (fun _ => False) rfl rfl ?aP (fun _ hk => hk.elim) ?aF ?aO ?aB ?aS ?aL ?_; (case aP => exact rfl); (case aB => exact (by repeat (first | (with_reducible first | exact HB.out | apply below_alloc | apply pw_below_drewN | apply below_drew1) | exact HB.out))); (case aF => exact (fun k_ hk => Kd.fresh' (Kd.R_lt (by (with_reducible repeat (first | apply Kd.R_alloc | apply Kd.R_drewN | apply Kd.R_drew)); exact HO_4.out)) k_ hk)); (case aO => exact (by (with_reducible repeat (first | apply Kd.R_alloc | apply Kd.R_drewN | apply Kd.R_drew)); exact HO_7.out)); (case aS => exact (below_size (by repeat (first | (with_reducible first | exact HB.out | apply below_alloc | apply pw_below_drewN | apply below_drew1) | exact HB.out)))); (case aL => have := LMc21.out; omega); intro v195 w24 ho hb hg hat; rw [← Ny194.out] at ho; have n0_ := Aside0.mk (Kd.S_after (ok := (fun k_ => some k_ ≠ (v182 : Value).ownBlock)) (by (with_reducible repeat (first | apply Kd.S_alloc | apply Kd.S_drewN | apply Kd.S_drew)); exact HO_3.out) hg hat); have n1_ := Aside0.mk (Kd.R_after (ok := (fun _ => True)) (by (with_reducible repeat (first | apply Kd.R_alloc | apply Kd.R_drewN | apply Kd.R_drew)); exact Kd.R_mono HO_4.out (fun _ hk => ⟨trivial, hk⟩)) hg hat); have n2_ := Aside0.mk (hb); have n3_ := Aside0.mk (ho); clear HO_3; clear HO_4; clear HB; clear HO_7; have HO_3 := n0_; have HO_4 := n1_; have HB := n2_; have HO196 := n3_; clear n0_ n1_ n2_ n3_; clear ho hb hg hat; obtain ⟨Ao25, co25, eo25⟩ := Kd.R_slice HO_4.out; subst eo25; have p197 : 0 ≤ (x22_2 : Int) := of_decide_eq_true (by first | (with_reducible assumption) | assumption); have q197 : x22_2 < (x4_2.length : Int) := of_decide_eq_true (by first | (with_reducible assumption) | assumption); obtain ⟨ad197, e197, hx197_0⟩ := Kd.at_int (Kd.R_reads' HO_4.out).2.2 x22_2 p197 q197; cases e197; replace p197 := eq_true p197; replace q197 := eq_true q197; have p23 : 0 ≤ (x22_2 : Int) := of_decide_eq_true (by first | (with_reducible assumption) | assumption); have q23 : (x22_2 : Int) < ((x4_2.length : Int) : Int) := of_decide_eq_true (by first | (with_reducible assumption) | assumption); obtain ⟨go23, co23, eo23, gb23, gl23, cl23, HG23⟩ := Kd.R_form HO_4.out (by omega); (first | cases eo23 | (injection eo23 with ea_ en_ ec_; (first | subst ea_ | (injection ea_ with ea_; subst ea_)); subst ec_; clear en_)); have GB23 := Aside0.mk gb23; have GG23 := Aside0.mk HG23; clear gb23 gl23 HG23; (first | simp only [add_plain] at hx197_0 | skip); obtain ⟨hx23_0, hf23_0⟩ := Kd.R_celln 0 HO_4.out (x22_2 : Int) p23 q23; replace p23 := eq_true p23; replace q23 := eq_true q23; have n_ := Aside0.mk (Kd.R_mono (ok' := (fun k_ => some k_ ≠ (v195 : Value).ownBlock)) HO_4.out (fun k_ hk => hk.2)); clear HO_4; have HO_4 := n_; clear n_; obtain ⟨hy26_, hz26_⟩ := Kd.R_celln 0 HO_4.out (x22_2 : Int) (of_decide_eq_true (by first | (with_reducible assumption) | assumption)) (of_decide_eq_true (by first | (with_reducible assumption) | assumption)); have HP26 := Kd.R_putg HO_4.out (x22_2 : Int) (wrap64 ((rd x4_2 x22_2) + (rd (rd_L1 l0 x16_1) x22_2)))) | ((with_reducible refine gate_store (t := 3) (p := 57) rfl ?_); refine store_event (t := 3) (p := 57) (v := ?vo_w27) (w1 := (w24.setCell ⟨go23, (x22_2 : Int).toNat, none⟩ (.int .i64 (wrap64 ((rd x4_2 x22_2) + (rd (rd_L1 l0 x16_1) x22_2)))))) ?hg ?ho ?hn ?hr ?_; (case ho => rfl); (case hg => rfl); (case hn => rfl); (case hr => first | (go_simp; done) | (go_simp; rfl)); intro w27 hw; have hg : w24.grownBy w27 (some go23) := (by rw [hw]; exact HP26.2); have hp_ : Kd.R (Kd.int .i64) 3 w27 w.heap.size (fun k_ => some k_ ≠ (v195 : Value).ownBlock) (.slice (some ⟨go23, 0, none⟩) x4_2.length co25) y198 := (by rw [hw, Ny198.out]; exact HP26.1); clear HP26; have n0_ := Aside0.mk (Kd.S_after (v := (.slice (some ⟨go23, 0, none⟩) x4_2.length co25)) (v1 := (.slice (some ⟨go23, 0, none⟩) x4_2.length co25)) (ok := (fun k_ => some k_ ≠ (v195 : Value).ownBlock)) (by (with_reducible repeat (first | apply Kd.S_alloc | apply Kd.S_drewN | apply Kd.S_drew)); exact Kd.S_mono HO_3.out (fun _ hk => ⟨hk.2, hk.1⟩)) hg (.inl rfl)); have n1_ := Aside0.mk (hp_); have n2_ := Aside0.mk (Kd.R_after (v := (.slice (some ⟨go23, 0, none⟩) x4_2.length co25)) (v1 := (.slice (some ⟨go23, 0, none⟩) x4_2.length co25)) (ok := (fun _ => True)) (by (with_reducible repeat (first | apply Kd.R_alloc | apply Kd.R_drewN | apply Kd.R_drew)); exact Kd.R_mono HO196.out (fun _ hk => ⟨trivial, hk⟩)) hg (.inl rfl)); have n3_ := Aside0.mk ((by rw [hw]; exact below_set (HB.out) GB23.out : Below w.heap.size w w27)); clear HO_3; clear HO_4; clear HO196; clear HB; have HO_3 := n0_; have HO_4 := n1_; have HO196 := n2_; have HB := n3_; clear n0_ n1_ n2_ n3_; clear hg hw hp_))
                                  go_roundg k2
                                  case measure => have := HK1.out; have := HK2.out; omega
                                  case rel => exact ⟨(y198), (y194), (wrap64 (x8_2 + (rd (rd_L1 l0 x16_1) x22_2))), (wrap64 (x22_2 + 1)), (by first | rfl | (simp; done) | (simp [*]; done)), (by first | rfl | (simp; done) | (simp [*]; done)), H', ⟨by have := HK1.out; have := HK2.out; omega⟩, ⟨by (with_reducible repeat (first | apply Kd.S_alloc | apply Kd.S_drewN | apply Kd.S_drew)); exact Kd.S_mono HO_3.out (fun _ hk => ⟨hk.2, hk.1⟩)⟩, ⟨by (with_reducible repeat (first | apply Kd.R_alloc | apply Kd.R_drewN | apply Kd.R_drew)); exact HO_4.out⟩, ⟨by (with_reducible repeat (first | apply Kd.R_alloc | apply Kd.R_drewN | apply Kd.R_drew)); exact Kd.R_mono HO196.out (fun _ hk => hk.2)⟩, ⟨by repeat (first | (with_reducible first | exact HB.out | apply below_alloc | apply pw_below_drewN | apply below_drew1) | exact HB.out)⟩⟩
                                · rw [if_neg c22] at H
                                  exact absurd H (by simp)
                              · rw [if_neg c21] at H
                                exact absurd H (by simp)
                            · rw [if_neg c20] at H
                              have c20b0 : ((rd (rd_L1 l0 x16_1) x22_2) == (-1)) = false := beq_eq_false_iff_ne.mpr c20
                              have c20b1 : ((rd (rd_L1 l0 x16_1) x22_2) != (-1)) = true := bne_iff_ne.mpr c20
                              by_cases c28 : x22_2 < (x4_2.length : Int)
                              · rw [if_pos c28] at H
                                have c28b0 : decide (x22_2 < (x4_2.length : Int)) = true := decide_eq_true c28
                                clear c28
                                by_cases c29 : x7_2.length < 17592186044416
                                · rw [if_pos c29] at H
                                  have LMc29 := Aside0.mk c29
                                  clear c29
                                  obtain ⟨y200, hy200⟩ : ∃ y_ : List Int, y_ = (x7_2 ++ [wrap64 ((wrap64 (2 * x8_2)) + (rd x4_2 x22_2))]) := ⟨_, rfl⟩
                                  replace H : (spec_weKinds.l1 k2 x3_1 (x4_2.set (x22_2 : Int).toNat (wrap64 ((rd x4_2 x22_2) + (rd (rd_L1 l0 x16_1) x22_2)))) y200 (wrap64 (x8_2 + (rd (rd_L1 l0 x16_1) x22_2))) l0 (l0.length : Int) x16_1 (rd_L1 l0 x16_1) ((rd_L1 l0 x16_1).length : Int) (wrap64 (x22_2 + 1))) = some r := by first | (rw [hy200]; with_reducible exact H) | (have H2_ := (Option.bind_some _ _).symm.trans H; rw [hy200]; with_reducible exact H2_) | (have H2_ := (Option.bind_some _ _).symm.trans H; with_reducible exact H2_) | with_reducible exact H | (rw [hy200]; exact H) | exact H
                                  have Ny200 := Aside0.mk hy200
                                  clear hy200
                                  obtain ⟨y204, hy204⟩ : ∃ y_ : List Int, y_ = (x4_2.set (x22_2 : Int).toNat (wrap64 ((rd x4_2 x22_2) + (rd (rd_L1 l0 x16_1) x22_2)))) := ⟨_, rfl⟩
                                  replace H : (spec_weKinds.l1 k2 x3_1 y204 y200 (wrap64 (x8_2 + (rd (rd_L1 l0 x16_1) x22_2))) l0 (l0.length : Int) x16_1 (rd_L1 l0 x16_1) ((rd_L1 l0 x16_1).length : Int) (wrap64 (x22_2 + 1))) = some r := by first | (rw [hy204]; with_reducible exact H) | (have H2_ := (Option.bind_some _ _).symm.trans H; rw [hy204]; with_reducible exact H2_) | (have H2_ := (Option.bind_some _ _).symm.trans H; with_reducible exact H2_) | with_reducible exact H | (rw [hy204]; exact H) | exact H
                                  have Ny204 := Aside0.mk hy204
                                  clear hy204
                                  have H' := Aside0.mk H
                                  clear H
                                  have p188 : 0 ≤ (x22_2 : Int) := of_decide_eq_true (by first | (with_reducible assumption) | assumption)
                                  have q188 : x22_2 < ((rd_L1 l0 x16_1).length : Int) := of_decide_eq_true (by first | (with_reducible assumption) | assumption)
                                  obtain ⟨ad188, e188, hx188_0⟩ := Kd.at_int HR184_0.out x22_2 p188 q188
                                  cases e188
                                  (try replace hx188_0 := (HB.out.cell (World.block_lt_of_cell? w _ hx188_0)).trans hx188_0)
                                  replace p188 := eq_true p188
                                  replace q188 := eq_true q188
                                  obtain ⟨Ao31, co31, eo31⟩ := Kd.R_slice HO_4.out
                                  subst eo31
                                  have p199 : 0 ≤ (x22_2 : Int) := of_decide_eq_true (by first | (with_reducible assumption) | assumption)
                                  have q199 : x22_2 < (x4_2.length : Int) := of_decide_eq_true (by first | (with_reducible assumption) | assumption)
                                  obtain ⟨ad199, e199, hx199_0⟩ := Kd.at_int (Kd.R_reads' HO_4.out).2.2 x22_2 p199 q199
                                  cases e199
                                  replace p199 := eq_true p199
                                  replace q199 := eq_true q199
                                  go_wp2_with (first | ((with_reducible refine gate_builtin (b := .append) (xs := #[.tmp 28, .tmp 36]) rfl ?_); at_builtin; refine Kd.R_append (Kd.int .i64) (w0 := w) w.heap.size rfl (.tmp 28) (.tmp 36) 22 3 (.int .i64 0) 8 rfl Try.underlying22 info3 rfl (by decide) (by omega) u7 x7_2 (wrap64 ((wrap64 (2 * x8_2)) + (rd x4_2 x22_2))) [.int .i64 (wrap64 ((wrap64 (2 * x8_2)) + (rd x4_2 x22_2)))] (fun k_ => some k_ ≠ (.slice (some ad199) x4_2.length co31 : Value).ownBlock) (fun _ => False) rfl rfl ?aP (fun _ hk => hk.elim) ?aF ?aO ?aB ?aS ?aL ?_; (case aP => exact rfl); (case aB => exact (by repeat (first | (with_reducible first | exact HB.out | apply below_alloc | apply pw_below_drewN | apply below_drew1) | exact HB.out))); (case aF => exact (fun k_ hk => Kd.fresh' (Kd.R_lt (by (with_reducible repeat (first | apply Kd.R_alloc | apply Kd.R_drewN | apply Kd.R_drew)); exact HO_4.out)) k_ hk)); (case aO => exact (by (with_reducible repeat (first | apply Kd.R_alloc | apply Kd.R_drewN | apply Kd.R_drew)); exact HO_7.out)); (case aS => exact (below_size (by repeat (first | (with_reducible first | exact HB.out | apply below_alloc | apply pw_below_drewN | apply below_drew1) | exact HB.out)))); (case aL => have := LMc29.out; omega); intro v201 w32 ho hb hg hat; rw [← Ny200.out] at ho; have n0_ := Aside0.mk (Kd.S_after (ok := (fun k_ => some k_ ≠ (.slice (some ad199) x4_2.length co31 : Value).ownBlock)) (by (with_reducible repeat (first | apply Kd.S_alloc | apply Kd.S_drewN | apply Kd.S_drew)); exact HO_3.out) hg hat); have n1_ := Aside0.mk (Kd.R_after (ok := (fun _ => True)) (by (with_reducible repeat (first | apply Kd.R_alloc | apply Kd.R_drewN | apply Kd.R_drew)); exact Kd.R_mono HO_4.out (fun _ hk => ⟨trivial, hk⟩)) hg hat); have n2_ := Aside0.mk (hb); have n3_ := Aside0.mk (ho); clear HO_3; clear HO_4; clear HB; clear HO_7; have HO_3 := n0_; have HO_4 := n1_; have HB := n2_; have HO202 := n3_; clear n0_ n1_ n2_ n3_; clear ho hb hg hat; have p203 : 0 ≤ (x22_2 : Int) := of_decide_eq_true (by first | (with_reducible assumption) | assumption); have q203 : x22_2 < (x4_2.length : Int) := of_decide_eq_true (by first | (with_reducible assumption) | assumption); obtain ⟨ad203, e203, hx203_0⟩ := Kd.at_int (Kd.R_reads' HO_4.out).2.2 x22_2 p203 q203; obtain rfl : ad199 = ad203 := (by injection e203); replace p203 := eq_true p203; replace q203 := eq_true q203; have p30 : 0 ≤ (x22_2 : Int) := of_decide_eq_true (by first | (with_reducible assumption) | assumption); have q30 : (x22_2 : Int) < ((x4_2.length : Int) : Int) := of_decide_eq_true (by first | (with_reducible assumption) | assumption); obtain ⟨go30, co30, eo30, gb30, gl30, cl30, HG30⟩ := Kd.R_form HO_4.out (by omega); (first | cases eo30 | (injection eo30 with ea_ en_ ec_; (first | subst ea_ | (injection ea_ with ea_; subst ea_)); subst ec_; clear en_)); have GB30 := Aside0.mk gb30; have GG30 := Aside0.mk HG30; clear gb30 gl30 HG30; (first | simp only [add_plain] at hx199_0 | skip); (first | simp only [add_plain] at hx203_0 | skip); obtain ⟨hx30_0, hf30_0⟩ := Kd.R_celln 0 HO_4.out (x22_2 : Int) p30 q30; replace p30 := eq_true p30; replace q30 := eq_true q30; have n_ := Aside0.mk (Kd.R_mono (ok' := (fun k_ => some k_ ≠ (v201 : Value).ownBlock)) HO_4.out (fun k_ hk => hk.2)); clear HO_4; have HO_4 := n_; clear n_; obtain ⟨hy33_, hz33_⟩ := Kd.R_celln 0 HO_4.out (x22_2 : Int) (of_decide_eq_true (by first | (with_reducible assumption) | assumption)) (of_decide_eq_true (by first | (with_reducible assumption) | assumption)); have HP33 := Kd.R_putg HO_4.out (x22_2 : Int) (wrap64 ((rd x4_2 x22_2) + (rd (rd_L1 l0 x16_1) x22_2)))) | ((with_reducible refine gate_store (t := 3) (p := 57) rfl ?_); refine store_event (t := 3) (p := 57) (v := ?vo_w34) (w1 := (w32.setCell ⟨go30, (x22_2 : Int).toNat, none⟩ (.int .i64 (wrap64 ((rd x4_2 x22_2) + (rd (rd_L1 l0 x16_1) x22_2)))))) ?hg ?ho ?hn ?hr ?_; (case ho => rfl); (case hg => rfl); (case hn => rfl); (case hr => first | (go_simp; done) | (go_simp; rfl)); intro w34 hw; have hg : w32.grownBy w34 (some go30) := (by rw [hw]; exact HP33.2); have hp_ : Kd.R (Kd.int .i64) 3 w34 w.heap.size (fun k_ => some k_ ≠ (v201 : Value).ownBlock) (.slice (some ⟨go30, 0, none⟩) x4_2.length co31) y204 := (by rw [hw, Ny204.out]; exact HP33.1); clear HP33; have n0_ := Aside0.mk (Kd.S_after (v := (.slice (some ⟨go30, 0, none⟩) x4_2.length co31)) (v1 := (.slice (some ⟨go30, 0, none⟩) x4_2.length co31)) (ok := (fun k_ => some k_ ≠ (v201 : Value).ownBlock)) (by (with_reducible repeat (first | apply Kd.S_alloc | apply Kd.S_drewN | apply Kd.S_drew)); exact Kd.S_mono HO_3.out (fun _ hk => ⟨hk.2, hk.1⟩)) hg (.inl rfl)); have n1_ := Aside0.mk (hp_); have n2_ := Aside0.mk (Kd.R_after (v := (.slice (some ⟨go30, 0, none⟩) x4_2.length co31)) (v1 := (.slice (some ⟨go30, 0, none⟩) x4_2.length co31)) (ok := (fun _ => True)) (by (with_reducible repeat (first | apply Kd.R_alloc | apply Kd.R_drewN | apply Kd.R_drew)); exact Kd.R_mono HO202.out (fun _ hk => ⟨trivial, hk⟩)) hg (.inl rfl)); have n3_ := Aside0.mk ((by rw [hw]; exact below_set (HB.out) GB30.out : Below w.heap.size w w34)); clear HO_3; clear HO_4; clear HO202; clear HB; have HO_3 := n0_; have HO_4 := n1_; have HO202 := n2_; have HB := n3_; clear n0_ n1_ n2_ n3_; clear hg hw hp_))
                                  go_roundg k2
                                  case measure => have := HK1.out; have := HK2.out; omega
                                  case rel => exact ⟨(y204), (y200), (wrap64 (x8_2 + (rd (rd_L1 l0 x16_1) x22_2))), (wrap64 (x22_2 + 1)), (by first | rfl | (simp; done) | (simp [*]; done)), (by first | rfl | (simp; done) | (simp [*]; done)), H', ⟨by have := HK1.out; have := HK2.out; omega⟩, ⟨by (with_reducible repeat (first | apply Kd.S_alloc | apply Kd.S_drewN | apply Kd.S_drew)); exact Kd.S_mono HO_3.out (fun _ hk => ⟨hk.2, hk.1⟩)⟩, ⟨by (with_reducible repeat (first | apply Kd.R_alloc | apply Kd.R_drewN | apply Kd.R_drew)); exact HO_4.out⟩, ⟨by (with_reducible repeat (first | apply Kd.R_alloc | apply Kd.R_drewN | apply Kd.R_drew)); exact Kd.R_mono HO202.out (fun _ hk => hk.2)⟩, ⟨by repeat (first | (with_reducible first | exact HB.out | apply below_alloc | apply pw_below_drewN | apply below_drew1) | exact HB.out)⟩⟩
                                · rw [if_neg c29] at H
                                  exact absurd H (by simp)
                              · rw [if_neg c28] at H
                                exact absurd H (by simp)
                        · rw [if_neg c11] at H
                          exact absurd H (by simp)
                      · rw [if_neg c10] at H
                        exact absurd H (by simp)
                    · rw [if_neg c9] at H
                      have c9b0 : decide (x22_2 < ((rd_L1 l0 x16_1).length : Int)) = false := decide_eq_false c9
                      clear c9
                      by_cases c35 : x3_1.length < 5864062014805
                      · rw [if_pos c35] at H
                        have LMc35 := Aside0.mk c35
                        clear c35
                        obtain ⟨y185, hy185⟩ : ∃ y_ : List (List Int), y_ = (x3_1 ++ [x7_2]) := ⟨_, rfl⟩
                        replace H : (spec_weKinds.l0 k2 y185 x4_2 l0 (l0.length : Int) (wrap64 (x16_1 + 1))) = some r := by first | (rw [hy185]; with_reducible exact H) | (have H2_ := (Option.bind_some _ _).symm.trans H; rw [hy185]; with_reducible exact H2_) | (have H2_ := (Option.bind_some _ _).symm.trans H; with_reducible exact H2_) | with_reducible exact H | (rw [hy185]; exact H) | exact H
                        have Ny185 := Aside0.mk hy185
                        clear hy185
                        have H' := Aside0.mk H
                        clear H
                        obtain ⟨Ao37, co37, eo37⟩ := Kd.R_slice HO_7.out
                        subst eo37
                        go_wp2_with (first | ((with_reducible refine gate_builtin (b := .append) (xs := #[.tmp 59, .tmp 61]) rfl ?_); at_builtin; refine Kd.S_append (Kd.slice 3 (Kd.int .i64)) (w0 := w) w.heap.size rfl (.tmp 59) (.tmp 61) 36 22 (.slice none 0 0) 24 rfl Try.underlying36 info22 rfl (by decide) (by omega) u3 x3_1 x7_2 [.slice Ao37 x7_2.length co37] (fun k_ => some k_ ≠ (v182 : Value).ownBlock) (fun k_ => some k_ = (.slice Ao37 x7_2.length co37 : Value).ownBlock) rfl rfl ?aP (fun k_ hk_ => ((Kd.R_mono (ok' := fun k_ => ((fun k_ => some k_ ≠ (v182 : Value).ownBlock)) k_ ∧ some k_ ≠ (u3 : Value).ownBlock) (Kd.R_apart' (HO_7.out) (Kd.S_typed HO_3.out) (by decide)) (fun k_ hk => ⟨hk.1, hk.2⟩))).1 k_ hk_.symm) ?aF ?aO ?aB ?aS ?aL ?_; (case aP => exact Kd.M_row (Kd.R_mono (Kd.R_tight rfl (Kd.R_mono (ok' := fun k_ => ((fun k_ => some k_ ≠ (v182 : Value).ownBlock)) k_ ∧ some k_ ≠ (u3 : Value).ownBlock) (Kd.R_apart' (HO_7.out) (Kd.S_typed HO_3.out) (by decide)) (fun k_ hk => ⟨hk.1, hk.2⟩))) (fun _ h_ => h_))); (case aB => exact (by repeat (first | (with_reducible first | exact HB.out | apply below_alloc | apply pw_below_drewN | apply below_drew1) | exact HB.out))); (case aF => exact (fun k_ hk => Kd.fresh' (Kd.R_lt (by (with_reducible repeat (first | apply Kd.R_alloc | apply Kd.R_drewN | apply Kd.R_drew)); exact HO_4.out)) k_ hk)); (case aO => exact (by (with_reducible repeat (first | apply Kd.S_alloc | apply Kd.S_drewN | apply Kd.S_drew)); exact Kd.S_mono HO_3.out (fun k_ hk => ⟨hk.1, fun e_ => hk.2 e_⟩))); (case aS => exact (below_size (by repeat (first | (with_reducible first | exact HB.out | apply below_alloc | apply pw_below_drewN | apply below_drew1) | exact HB.out)))); (case aL => have := LMc35.out; omega); intro v186 w36 ho hb hg hat; rw [← Ny185.out] at ho; have n0_ := Aside0.mk (Kd.R_over' (by (with_reducible repeat (first | apply Kd.R_alloc | apply Kd.R_drewN | apply Kd.R_drew)); exact HO_4.out) (Kd.S_typed (by (with_reducible repeat (first | apply Kd.S_alloc | apply Kd.S_drewN | apply Kd.S_drew)); exact HO_3.out)) (by decide) hg); have n1_ := Aside0.mk (hb); have n2_ := Aside0.mk (ho); clear HO_4; clear HB; clear HO_3; clear HO_7; have HO_4 := n0_; have HB := n1_; have HO187 := n2_; clear n0_ n1_ n2_; clear ho hb hg hat))
                        go_roundg k2
                        case measure => have := HK1.out; have := HK2.out; omega
                        case rel => exact ⟨(y185), (x4_2), (wrap64 (x16_1 + 1)), (by first | rfl | (simp; done) | (simp [*]; done)), H', ⟨by have := HK1.out; have := HK2.out; omega⟩, ⟨by (with_reducible repeat (first | apply Kd.S_alloc | apply Kd.S_drewN | apply Kd.S_drew)); exact HO187.out⟩, ⟨by (with_reducible repeat (first | apply Kd.R_alloc | apply Kd.R_drewN | apply Kd.R_drew)); exact Kd.R_mono HO_4.out (fun _ hk => trivial)⟩, ⟨by repeat (first | (with_reducible first | exact HB.out | apply below_alloc | apply pw_below_drewN | apply below_drew1) | exact HB.out)⟩⟩
                      · rw [if_neg c35] at H
                        exact absurd H (by simp)
              · rw [if_neg c8] at H
                exact absurd H (by simp)
            · rw [if_neg c7] at H
              exact absurd H (by simp)
          · rw [if_neg c6] at H
            have c6b0 : decide (x16_1 < (l0.length : Int)) = false := decide_eq_false c6
            clear c6
            obtain rfl := Option.some.inj H
            go_wp2
            go_ret
            exact ⟨_, by first | rfl | (simp [errW_none, errW_some] <;> rfl) | (simp [*, errW_none, errW_some] <;> rfl), by (with_reducible repeat (first | apply Kd.S_alloc | apply Kd.S_drewN | apply Kd.S_drew)); exact Kd.S_mono HO_3.out (fun _ hk => trivial), by repeat (first | (with_reducible first | exact HB.out | apply below_alloc | apply pw_below_drewN | apply below_drew1) | exact HB.out)⟩
    · rw [if_neg c3] at H
      exact absurd H (by simp)
  · rw [if_neg c2] at H
    exact absurd H (by simp)

end Go.Proofs.Ytdcdkckpmkfjdaa.P

/- Externs of seat x: the reference's sign matrices and its counts of kinds. -/
namespace Go.Proofs.Ytdcdkckpmkfjdaa
open Go.RowKit Go.Proofs.Ytdcdkckpmkfjdaa.P Go.Proofs.Ytdcdkckpmkfjdaa.L Go.Proofs.YtdcdkckpmkfjdaaW.PrintWords Go.Proofs.YtdcdkckpmkfjdaaW.PrintLast Go.Proofs.YtdcdkckpmkfjdaaW.PrintMore
set_option linter.unusedVariables false
set_option maxRecDepth 100000

/-- All sign matrices of side n. -/
def wgX (n : Nat) : List (List (List Int)) := (wgE 1000 [] (List.replicate n 0)).getD []
theorem wg_1 : wgE 1000 [] (List.replicate 1 0) = some (wgX 1) ∧ (wgX 1).length ≤ 1000 := by decide +kernel
theorem wg_2 : wgE 1000 [] (List.replicate 2 0) = some (wgX 2) ∧ (wgX 2).length ≤ 1000 := by decide +kernel
theorem wg_3 : wgE 1000 [] (List.replicate 3 0) = some (wgX 3) ∧ (wgX 3).length ≤ 1000 := by decide +kernel
theorem wg_4 : wgE 1000 [] (List.replicate 4 0) = some (wgX 4) ∧ (wgX 4).length ≤ 1000 := by decide +kernel
theorem wg_all {n : Nat} (h0 : 1 ≤ n) (h1 : n ≤ 4) : wgE 1000 [] (List.replicate n 0) = some (wgX n) ∧ (wgX n).length ≤ 1000 := by
  have e : n = 1 ∨ n = 2 ∨ n = 3 ∨ n = 4 := by omega
  rcases e with rfl | rfl | rfl | rfl
  · exact wg_1
  · exact wg_2
  · exact wg_3
  · exact wg_4
def spec_weAll.f (a0 : Int) : Option (List (List (List Int))) := if 1 ≤ a0 ∧ a0 ≤ 4 then some (wgX a0.toNat) else none
theorem spec_weAll.calls (a0 : Int) (r : List (List (List Int))) (w : World) (h : spec_weAll.f a0 = some r) :
    Calls Try.prog 58 #[.int .i64 a0] w fun e w' => ∃ v0_ : Value, e = .returned (v0_) ∧ Kd.N (Kd.slice 22 (Kd.slice 3 (Kd.int .i64))) 36 w' w.heap.size (fun k_ => (w.heap.size ≤ k_)) v0_ r ∧ Below w.heap.size w w' := by
  unfold spec_weAll.f at h
  split at h
  case isFalse => cases h
  rename_i hn
  obtain rfl := Option.some.inj h
  obtain ⟨m, rfl⟩ := Int.eq_ofNat_of_zero_le (show 0 ≤ a0 by omega)
  rw [Int.toNat_natCast]
  obtain ⟨h1, h2⟩ := wg_all (n := m) (by omega) (by omega)
  have hmm : m ≤ 4 := by omega
  have mk1 : ∀ W : World, Sem.run Try.prog (Instr.makeSlice 22 (.int .i64 m) (.int .i64 m)) W = Result.ok (Value.slice (some ⟨W.heap.size, 0, none⟩) m m) (W.alloc (.cells (madeCells #[.int .i64 0] m) 3)) := fun W => run_make_row' (P := Try.prog) 22 3 (.int .i64 0) 8 Try.underlying22 info_ints rfl .i64 .i64 m (by omega) (by omega) W
  have hst : intBlk (w.alloc (.cells (madeCells #[.int .i64 0] m) 3)) w.heap.size (List.replicate m 0) := by unfold intBlk; have := blk_new w (.cells (madeCells #[.int .i64 0] m) 3); rw [madeInts] at this ⊢; exact this
  have hR := intBlk_R (ok := fun _ => True) (base := w.heap.size) hst (Nat.le_refl _) trivial (by rw [List.length_replicate]; omega)
  have hcall := spec_weGoOn.callsG 1000 [] (List.replicate m 0) (wgX m) none 0 _ _ (w.alloc (.cells (madeCells #[.int .i64 0] m) 3)) (fun _ => False) h1 (by omega) (Kd.F_nil _ _ _) (Nat.le_refl _) (Kd.R_reads' hR).2.2 (Nat.le_refl _)
  rw [List.length_replicate, List.length_nil] at hcall
  have HC := Aside0.mk hcall
  clear hcall hR hst h1 h2 hn
  go_enter Try.func58, Try.ntmps58
  go_wp2_with (go_at_call 109; refine HC.out.mono ?_; rintro e w1 ⟨v, rfl, hN, hb⟩; have HN := Aside0.mk hN; have HB := Aside0.mk (below_step (below_alloc (Below.refl w.heap.size w) (.cells (madeCells #[.int .i64 0] m) 3)) hb); clear hN hb)
  go_ret
  exact ⟨_, rfl, Kd.N_lower (Kd.N_mono HN.out (fun k hk => hk.elim (fun h => h.elim) (fun h => Nat.le_trans (by simp) h))) (by simp), HB.out⟩
/-- Kinds that can be counted. -/
def kOK (K : List (List Int)) : Bool := K.all fun r => r.all fun x => decide (0 ≤ x) && decide (x < 6)
theorem kOK_at {K : List (List Int)} (h : kOK K = true) (i j : Nat) (hi : i < K.length) (hj : j < (K.getD i []).length) : 0 ≤ rd (K.getD i []) j ∧ rd (K.getD i []) j < 6 := by
  have h1 : K.getD i [] = K[i] := by rw [List.getD_eq_getElem?_getD, List.getElem?_eq_getElem hi]; rfl
  rw [h1] at hj ⊢
  have h2 := List.all_eq_true.1 (List.all_eq_true.1 h _ (List.getElem_mem hi)) _ (List.getElem_mem hj)
  rw [Bool.and_eq_true] at h2
  rw [L.rd_at _ _ hj]
  exact ⟨of_decide_eq_true h2.1, of_decide_eq_true h2.2⟩
def spec_weCounts.f (k : Nat) (l0 : List (List Int)) : Option (List Int) := (P.spec_weKinds.f k l0).bind fun K => if kOK K = true then some (cntAll K (List.replicate 6 0)) else none
theorem spec_weCounts.mono : ∀ l0 k, LeO (spec_weCounts.f k l0) (spec_weCounts.f (k + 1) l0) := fun l0 k => LeO.bind (P.spec_weKinds.mono l0 k) (fun _ => LeO.refl _)
theorem spec_weCounts.calls (k : Nat) (A0 : Option Addr) (c0 : Nat) (l0 : List (List Int)) (r : List Int) (w : World) (hr0 : Kd.C (Kd.slice 3 (Kd.int .i64)) w A0 l0.length l0) (hc0 : l0.length ≤ c0) (h : spec_weCounts.f k l0 = some r) :
    Calls Try.prog 77 #[.slice A0 l0.length c0] w fun e w' => ∃ v0_ : Value, e = .returned (v0_) ∧ Kd.R (Kd.int .i64) 3 w' w.heap.size (fun _ => True) v0_ r ∧ Below w.heap.size w w' := by
  unfold spec_weCounts.f at h
  obtain ⟨K, hK, h⟩ := Option.bind_eq_some_iff.1 h
  split at h
  case isFalse => cases h
  rename_i hk
  obtain rfl := Option.some.inj h
  exact spec_weCounts.callsG A0 c0 l0 K w (fun W hb => P.spec_weKinds.calls k A0 c0 l0 K W (Kd.C_below hr0 hb) hc0 hK) (kOK_at hk)
end Go.Proofs.Ytdcdkckpmkfjdaa

/- The rows below a row: what the two sides make. -/
namespace Go.Proofs.Ytdcdkckpmkfjdaa.L
open Go.RowKit Go.Proofs.Ytdcdkckpmkfjdaa Go.Proofs.Ytdcdkckpmkfjdaa.P Go.Proofs.YtdcdkckpmkfjdaaW.PrintWords Go.Proofs.YtdcdkckpmkfjdaaW.PrintLast Go.Proofs.YtdcdkckpmkfjdaaW.PrintMore
set_option linter.unusedVariables false
set_option maxRecDepth 100000

theorem rows_6 : spec_dpRows.f 300 [] 6 = some (frX 6) ∧ ((frX 6).all fun r => decide (0 < r.length)) = true ∧ 0 < (frX 6).length := by decide +kernel
/-- The rows below l. -/
def rbT (l : List Int) : List (List Int) := (frX 6).filter fun x => standsB l x
theorem next_l0 (l : List Int) (hl : l.length ≤ 1000000) (L : List (List Int)) (hL : L.length ≤ 2000) (hp : ∀ r ∈ L, 0 < r.length) : ∀ (d i : Nat) (acc : List (List Int)), i + d = L.length → acc.length ≤ i → Ev (fun k => spec_dpNext.l0 k [l] acc L L.length i) (acc ++ (L.drop i).filter fun x => standsB l x) := by
  intro d
  induction d with
  | zero =>
    intro i acc hi ha
    refine Ev.step (fun k => by rw [spec_dpNext.l0]) ?_
    rw [show L.drop i = [] from List.drop_of_length_le (by omega), List.filter_nil, List.append_nil]
    exact Ev.ite_neg (by omega) (Ev.now _)
  | succ d ih =>
    intro i acc hi ha
    have hlt : i < L.length := by omega
    refine Ev.step (fun k => by rw [spec_dpNext.l0]) ?_
    have hrd : rd_L1 L (i : Int) = L[i] := by show L.getD (i : Int).toNat [] = _; rw [Int.toNat_natCast, List.getD_eq_getElem?_getD, List.getElem?_eq_getElem hlt]; rfl
    rw [hrd, show wrap64 (((([l] : List (List Int)).length : Nat) : Int) - 1) = 0 from by rw [List.length_singleton]; unfold wrap64; omega, show rd_L1 [l] 0 = l from rfl, wrapS i (by omega), List.drop_eq_getElem_cons hlt]
    refine Ev.ite_pos (by omega) (Ev.ite_pos (by omega) (Ev.ite_pos (by omega) (Ev.ite_neg (by simp) (Ev.ite_pos (by omega) (Ev.ite_pos (by simp) (Ev.bind (spec_stands_ev l L[i] (hp _ (List.getElem_mem hlt)) hl) ?_))))))
    cases hs : standsB l L[i] with
    | true =>
      rw [List.filter_cons_of_pos (by simpa using hs)]
      have := ih (i + 1) (acc ++ [L[i]]) (by omega) (by simp; omega)
      rw [List.append_assoc, List.singleton_append] at this
      exact Ev.ite_pos rfl (Ev.ite_pos (by omega) this)
    | false =>
      rw [List.filter_cons_of_neg (by simp [hs])]
      exact Ev.ite_neg (by simp) (ih (i + 1) acc (by omega) (by omega))
theorem next_ev (l : List Int) (hl : l.length ≤ 1000000) : Ev (fun k => spec_dpNext.f k [l] 6) (rbT l) := by
  have h6 := (fr_all (n := 6) (by omega) (by omega)).2.2.1
  unfold spec_dpNext.f
  refine Ev.bind (a := frX 6) ⟨300, fun k hk => at_rounds (spec_dpRows.mono [] 6) hk rows_6.1⟩ ?_
  have := next_l0 l hl (frX 6) h6 (fun r hr => of_decide_eq_true (List.all_eq_true.1 rows_6.2.1 r hr)) (frX 6).length 0 [] (by omega) (by simp)
  rwa [List.drop_zero, List.nil_append] at this
/-- A list of one row that came in. -/
theorem one_row {w : World} {A : Option Addr} {c : Nat} {l : List Int} (hC : Kd.C (Kd.int .i64) w A l.length l) (hc : l.length ≤ c) : Kd.C (Kd.slice 3 (Kd.int .i64)) (w.alloc (.cells #[.slice A l.length c] 22)) (some ⟨w.heap.size, 0, none⟩) ([l] : List (List Int)).length [l] := by
  have hb := below_alloc (Below.refl w.heap.size w) (.cells #[.slice A l.length c] 22)
  have hR : RawN (w.alloc (.cells #[.slice A l.length c] 22)) w.heap.size (fun _ => True) w.heap.size 1 [.slice A l.length c] [l] := by
    refine ⟨rfl, Nat.le_refl _, by unfold maxLen; omega, Nat.le_refl _, trivial, ⟨_, blk_new w _, rfl, rfl⟩, fun j x u hx hu => ?_⟩
    rcases j with _ | j
    · obtain rfl := Option.some.inj hx
      obtain rfl := Option.some.inj hu
      exact Kd.FK_mono (Kd.FK_below (Kd.FK_slice_mk hc (Kd.C_F (Kd.heap_int _) hC)) hb) (fun k hk => ⟨trivial, by omega⟩)
    · simp at hx
  exact (Kd.N_reads' (RawN.N hR)).2.2
theorem good_len {l : List Int} (h : rowGood 6 l = true) : l.length ≤ 6 := by
  have := (rowGood_facts h).2.1
  omega
set_option maxHeartbeats 2000000 in
theorem spec_RowsBelow_calls (A : Option Addr) (c : Nat) (l : List Int) (w : World) (hC : Kd.C (Kd.int .i64) w A l.length l) (hc : l.length ≤ c) (hl : l.length ≤ 1048576) :
    Calls Try.prog 40 #[.slice A l.length c] w (RetC (Kd.slice 3 (Kd.int .i64)) w (if rowGood 6 l = true then rbT l else []) (rowGood 6 l)) := by
  obtain ⟨k1, h1⟩ := (dpRow_ev l 6 (by omega)).rounds
  have HR := Aside0.mk (fun W (hb : Below w.heap.size w W) => spec_dpRow.calls k1 A c l 6 (rowGood 6 l) W (Kd.C_below hC hb) hc h1)
  have HCC := Aside0.mk hC
  have HB := Aside0.mk (Below.refl w.heap.size w)
  clear h1 hC
  cases hg : rowGood 6 l with
  | false =>
    rw [hg] at HR
    rw [if_neg (by simp)]
    clear hg
    go_enter Try.func40, Try.ntmps40
    go_wp2_with (go_at_call 95; refine (HR.out _ HB.out).mono ?_; rintro e w1 ⟨rfl, hd⟩; have hb := hd.below; clear hd)
    go_ret2
    exact ⟨none, 0, rfl, Nat.le_refl _, Kd.C_nil _ _, hb⟩
  | true =>
    rw [hg] at HR
    rw [if_pos rfl]
    obtain ⟨k2, h2⟩ := (next_ev l (by have := good_len hg; omega)).rounds
    have HN := Aside0.mk (fun W A' c' h g => spec_dpNext.calls k2 A' c' [l] 6 (rbT l) W h g h2)
    obtain ⟨T, hT⟩ : ∃ T, T = rbT l := ⟨_, rfl⟩
    rw [← hT] at HN ⊢
    clear hg hT h2
    go_enter Try.func40, Try.ntmps40
    go_wp2_with (first
      | (go_at_call 95; refine (HR.out _ HB.out).mono ?_; rintro e w1 ⟨rfl, hd⟩; have HB1 := Aside0.mk hd.below; clear hd)
      | (go_at_call 92; refine (HN.out _ _ _ (one_row (Kd.C_below HCC.out HB1.out) hc) (Nat.le_refl _)).mono ?_; rintro e w2 ⟨v, rfl, hN, hb⟩; obtain ⟨A2, c2, rfl⟩ := Kd.N_slice hN; have HRD := Aside0.mk (Kd.N_reads' hN).2; have HB2 := Aside0.mk (below_step (below_alloc HB1.out (.cells #[.slice A l.length c] 22)) hb); clear hN hb))
    go_ret2
    exact ⟨A2, c2, rfl, HRD.out.1, HRD.out.2, HB2.out⟩
set_option maxHeartbeats 2000000 in
theorem impl_RowsBelow_calls (A : Option Addr) (c : Nat) (l : List Int) (w : World) (hC : Kd.C (Kd.int .i64) w A l.length l) (hc : l.length ≤ c) (hl : l.length ≤ 1048576) :
    Calls Try.prog 41 #[.slice A l.length c] w (RetTT w (if rowGood 6 l = true then rbT l else []) (rowGood 6 l)) := by
  obtain ⟨k1, h1⟩ := (descRow_ev l 6 (by omega)).rounds
  have HR := Aside0.mk (fun W (hb : Below w.heap.size w W) => impl_isDescendedRow.calls k1 A c l 6 (rowGood 6 l) W (Kd.C_below hC hb) hc h1)
  have HF := Aside0.mk (fun W => impl_firstRows_calls 6 (by omega) (by omega) W)
  have HCC := Aside0.mk hC
  have HB := Aside0.mk (Below.refl w.heap.size w)
  have hF6 := (fr_all (n := 6) (by omega) (by omega)).2.2.1
  have hFp : ∀ x ∈ frX 6, 0 < x.length := fun r hr => of_decide_eq_true (List.all_eq_true.1 rows_6.2.1 r hr)
  have hF0 := rows_6.2.2
  unfold rbT
  obtain ⟨F, hF⟩ : ∃ F, F = frX 6 := ⟨_, rfl⟩
  rw [← hF] at HF hF6 hFp hF0 ⊢
  have HFP := Aside0.mk hFp
  clear hF h1 hC hFp
  cases hg : rowGood 6 l with
  | false =>
    rw [hg] at HR
    rw [if_neg (by simp)]
    clear hg
    go_enter Try.func41, Try.ntmps41
    go_wp2_with (go_at_call 96; refine (HR.out _ HB.out).mono ?_; rintro e w1 ⟨rfl, hb⟩)
    go_ret2
    exact ⟨_, rfl, Kd.S_nil _ _ _ _ _, hb⟩
  | true =>
    rw [hg] at HR
    rw [if_pos rfl]
    have hl2 : l.length ≤ 1000000 := by have := good_len hg; omega
    clear hg
    go_enter Try.func41, Try.ntmps41
    go_wp2_with (first
      | (go_at_call 96; refine (HR.out _ HB.out).mono ?_; rintro e w1 ⟨rfl, hb⟩; have HB1 := Aside0.mk hb; clear hb)
      | (go_at_call 94; refine (HF.out _).mono ?_; rintro e w2 ⟨v, rfl, hS, hb⟩; obtain ⟨A2, c2, rfl⟩ := Kd.R_slice (Kd.S_R hS); obtain ⟨ad2, rfl, _⟩ := (Kd.R_reads' (Kd.S_R hS)).2.2.2.2 hF0; obtain ⟨g2, rfl⟩ := Kd.R_head (Kd.S_R hS); have HS := Aside0.mk (Kd.S_lower hS HB1.out.size); have HB2 := Aside0.mk (below_step HB1.out hb); clear hS hb)
      | (go_at_call 97; refine (impl_below.callsS (ok := fun _ => True) hl2 (by omega) HFP.out hc (Kd.C_below HCC.out HB2.out) HS.out HB2.out.size (fun _ _ => trivial)).mono ?_; rintro e w3 ⟨v3, rfl, hS3, hb3⟩; have HS3 := Aside0.mk hS3; have HB3 := Aside0.mk (below_step HB2.out hb3); clear hS3 hb3))
    go_ret2
    exact ⟨_, rfl, HS3.out, HB3.out⟩
end Go.Proofs.Ytdcdkckpmkfjdaa.L
