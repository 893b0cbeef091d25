/- The program's RankDescending answers as the reference's RankDescending, for every table and number; the table stays as it was (the walk of the law FnExactRankDescending; no condition). -/
import Derived.Test.YtdcdkckpmkfjdaaLA
import Derived.Test.YtdcdkckpmkfjdaaPx103
import Derived.Test.YtdcdkckpmkfjdaaPx105
import Derived.Test.YtdcdkckpmkfjdaaUA
import Derived.Test.YtdcdkckpmkfjdaaPx0
import Derived.Test.YtdcdkckpmkfjdaaPx84
import Derived.Test.YtdcdkckpmkfjdaaPx85
import Derived.Test.YtdcdkckpmkfjdaaHA
import Derived.Test.YtdcdkckpmkfjdaaPx53
import Derived.Test.YtdcdkckpmkfjdaaPx33
namespace Go.Proofs.Ytdcdkckpmkfjdaa.L
open Go.RowKit Go.Proofs.Ytdcdkckpmkfjdaa Go.Proofs.Ytdcdkckpmkfjdaa.P Go.Proofs.YtdcdkckpmkfjdaaW.PrintWords Go.Proofs.YtdcdkckpmkfjdaaW.PrintLast Go.Proofs.YtdcdkckpmkfjdaaW.PrintMore

theorem l1In_eq (a b c : Int) : spec_l1In.f a b c = some (inB a b c) := by
  unfold spec_l1In.f inB
  by_cases h : a ≥ b
  · rw [if_pos h]; simp [show b ≤ a from h]
  · rw [if_neg h]; simp [show ¬ b ≤ a from h]
theorem l1All_l0 (l : List Int) (a b : Int) (hl : l.length ≤ 17592186044416) : ∀ (d i : Nat), i + d = l.length → Ev (fun k => spec_l1All.l0 k a b l l.length i) ((l.drop i).all fun x => inB x a b) := by
  intro d
  induction d with
  | zero =>
    intro i hi
    refine Ev.step (fun k => by rw [spec_l1All.l0]) ?_
    rw [List.drop_eq_nil_of_le (by omega)]
    exact Ev.ite_neg (by omega) (Ev.now _)
  | succ d ih =>
    intro i hi
    refine Ev.step (fun k => by rw [spec_l1All.l0]) ?_
    refine Ev.ite_pos (by omega) (Ev.ite_pos (by omega) (Ev.ite_pos (by omega) ?_))
    rw [l1In_eq, rd_at l i (by omega), List.drop_eq_getElem_cons (by omega), List.all_cons]
    simp only [Option.bind_some]
    cases h : inB l[i] a b with
    | true =>
      refine Ev.ite_pos rfl ?_
      rw [wrapS i (by omega), Bool.true_and]
      exact ih (i + 1) (by omega)
    | false => exact Ev.ite_neg (by simp) (Ev.now _)
theorem l1All_ev (l : List Int) (a b : Int) (hl : l.length ≤ 17592186044416) : Ev (fun k => spec_l1All.f k l a b) (l.all fun x => inB x a b) := l1All_l0 l a b hl l.length 0 (by omega)

/-- From place i on no number is greater than the one before. -/
def noninc (r : List Int) (i : Nat) : Bool := (List.range' i (r.length - i)).all fun z => decide (rd r z ≤ rd r ((z - 1 : Nat) : Int))
theorem noninc_end (r : List Int) (i : Nat) (h : r.length ≤ i) : noninc r i = true := by unfold noninc; rw [show r.length - i = 0 by omega]; rfl
theorem noninc_step (r : List Int) (i : Nat) (h : i < r.length) : noninc r i = (decide (rd r i ≤ rd r ((i - 1 : Nat) : Int)) && noninc r (i + 1)) := by
  unfold noninc
  obtain ⟨m, hm⟩ : ∃ m, r.length - i = m + 1 := ⟨r.length - i - 1, by omega⟩
  rw [hm, show r.length - (i + 1) = m by omega, List.range'_succ, List.all_cons]
/-- Parts that can be a row. -/
def rowGood (n : Int) (r : List Int) : Bool := decide (0 < r.length) && ((r.all fun x => inB x 1 n) && (decide ((r.length : Int) < rd r 0) && noninc r 1))
theorem all_rd {r : List Int} {a b : Int} (h : (r.all fun x => inB x a b) = true) (i : Nat) (hi : i < r.length) : a ≤ rd r i ∧ rd r i ≤ b := by
  rw [rd_at r i hi]
  exact (inB_iff _ _ _).1 (List.all_eq_true.1 h _ (List.getElem_mem hi))
theorem rowGood_facts {n : Int} {r : List Int} (h : rowGood n r = true) : 0 < r.length ∧ (r.length : Int) < n ∧ (r.all fun x => inB x 1 n) = true ∧ (r.length : Int) < rd r 0 := by
  simp only [rowGood, Bool.and_eq_true] at h
  have h1 := of_decide_eq_true h.1
  have h3 := of_decide_eq_true h.2.2.1
  have h2 := all_rd h.2.1 0 h1
  simp only [Int.natCast_zero] at h2
  have : rd r ((0 : Nat) : Int) = rd r 0 := rfl
  exact ⟨h1, by omega, h.2.1, h3⟩

theorem dpRow_l0 (r : List Int) (hl : r.length ≤ 17592186044416) : ∀ (d i : Nat), 1 ≤ i → r.length - i ≤ d → Ev (fun k => spec_dpRow.l0 k r i) (noninc r i) := by
  intro d
  induction d with
  | zero =>
    intro i h1 hi
    refine Ev.step (fun k => by rw [spec_dpRow.l0]) ?_
    rw [noninc_end r i (by omega)]
    exact Ev.ite_neg (by omega) (Ev.now _)
  | succ d ih =>
    intro i h1 hi
    refine Ev.step (fun k => by rw [spec_dpRow.l0]) ?_
    by_cases hlt : i < r.length
    · rw [wrapP i h1 (by omega), noninc_step r i hlt]
      refine Ev.ite_pos (by omega) (Ev.ite_pos (by omega) (Ev.ite_pos (by omega) (Ev.ite_pos (by omega) ?_)))
      by_cases hq : rd r i > rd r ((i - 1 : Nat) : Int)
      · refine Ev.ite_pos hq ?_
        rw [decide_eq_false (by omega)]
        exact Ev.now _
      · refine Ev.ite_neg hq ?_
        rw [decide_eq_true (by omega), Bool.true_and, wrapS i (by omega)]
        exact ih (i + 1) (by omega) (by omega)
    · rw [noninc_end r i (by omega)]
      exact Ev.ite_neg (by omega) (Ev.now _)
theorem dpRow_j0 (r : List Int) (b : Bool) (hl : r.length ≤ 17592186044416) : Ev (fun k => spec_dpRow.j0 k r b) (!b && noninc r 1) := by
  refine Ev.step (fun k => by rw [spec_dpRow.j0]) ?_
  cases b with
  | true => exact Ev.ite_pos rfl (Ev.now _)
  | false => exact Ev.ite_neg (by simp) (dpRow_l0 r hl r.length 1 (by omega) (by omega))
theorem dpRow_ev (r : List Int) (n : Int) (hl : r.length ≤ 17592186044416) : Ev (fun k => spec_dpRow.f k r n) (rowGood n r) := by
  unfold spec_dpRow.f
  by_cases h0 : (r.length : Int) = 0
  · refine Ev.ite_pos h0 ?_
    have : rowGood n r = false := by unfold rowGood; rw [decide_eq_false (by omega)]; rfl
    rw [this]
    exact dpRow_j0 r true hl
  · refine Ev.ite_neg h0 ?_
    by_cases h1 : (r.length : Int) ≥ n
    · refine Ev.ite_pos h1 ?_
      have : rowGood n r = false := by
        cases hg : rowGood n r with
        | false => rfl
        | true => have := (rowGood_facts hg).2.1; omega
      rw [this]
      exact dpRow_j0 r true hl
    · refine Ev.ite_neg h1 (Ev.bind (l1All_ev r 1 n hl) ?_)
      unfold rowGood
      rw [decide_eq_true (show 0 < r.length by omega), Bool.true_and]
      cases h2 : (r.all fun x => inB x 1 n) with
      | false => exact Ev.ite_neg (by simp) (dpRow_j0 r true hl)
      | true =>
        refine Ev.ite_pos rfl (Ev.ite_pos (by omega) ?_)
        have := dpRow_j0 r (decide (rd r 0 ≤ (r.length : Int))) hl
        rw [show (!decide (rd r 0 ≤ (r.length : Int))) = decide ((r.length : Int) < rd r 0) from by by_cases hq : rd r 0 ≤ (r.length : Int) <;> simp [hq] <;> omega] at this
        rw [Bool.true_and]
        exact this
theorem descRow_l0 (r : List Int) (n : Int) (hl : r.length ≤ 17592186044416) : ∀ (d i : Nat), 1 ≤ i → r.length - i ≤ d → Ev (fun k => impl_isDescendedRow.l0 k r n i) (noninc r i && (decide (0 < r.length) && ((r.all fun x => inB x 1 n) && decide ((r.length : Int) < rd r 0)))) := by
  have fin : ∀ i, 1 ≤ i → r.length ≤ i → Ev (fun k => impl_isDescendedRow.l0 k r n i) (noninc r i && (decide (0 < r.length) && ((r.all fun x => inB x 1 n) && decide ((r.length : Int) < rd r 0)))) := by
    intro i h1 hi
    refine Ev.step (fun k => by rw [impl_isDescendedRow.l0]) ?_
    rw [noninc_end r i hi, Bool.true_and]
    refine Ev.ite_neg (by omega) ?_
    by_cases h0 : (r.length : Int) > 0
    · refine Ev.ite_pos h0 (Ev.some_bind rfl ?_)
      rw [decide_eq_true (show 0 < r.length by omega), Bool.true_and]
      cases h2 : (r.all fun x => inB x 1 n) with
      | false => exact Ev.ite_neg (by simp) (Ev.now _)
      | true => exact Ev.ite_pos rfl (Ev.ite_pos (by omega) (Ev.now _))
    · refine Ev.ite_neg h0 ?_
      rw [decide_eq_false (show ¬ 0 < r.length by omega)]
      exact Ev.now _
  intro d
  induction d with
  | zero => intro i h1 hi; exact fin i h1 (by omega)
  | succ d ih =>
    intro i h1 hi
    by_cases hlt : i < r.length
    · refine Ev.step (fun k => by rw [impl_isDescendedRow.l0]) ?_
      rw [wrapP i h1 (by omega), noninc_step r i hlt]
      refine Ev.ite_pos (by omega) (Ev.ite_pos (by omega) (Ev.ite_pos (by omega) (Ev.ite_pos (by omega) ?_)))
      by_cases hq : rd r i > rd r ((i - 1 : Nat) : Int)
      · refine Ev.ite_pos hq ?_
        rw [decide_eq_false (show ¬ rd r i ≤ rd r ((i - 1 : Nat) : Int) by omega)]
        exact Ev.now _
      · refine Ev.ite_neg hq ?_
        rw [decide_eq_true (show rd r i ≤ rd r ((i - 1 : Nat) : Int) by omega), Bool.true_and, wrapS i (by omega)]
        exact ih (i + 1) (by omega) (by omega)
    · exact fin i h1 (by omega)
theorem descRow_ev (r : List Int) (n : Int) (hl : r.length ≤ 17592186044416) : Ev (fun k => impl_isDescendedRow.f k r n) (rowGood n r) := by
  unfold impl_isDescendedRow.f
  have h := descRow_l0 r n hl r.length 1 (by omega) (by omega)
  have e : (noninc r 1 && (decide (0 < r.length) && ((r.all fun x => inB x 1 n) && decide ((r.length : Int) < rd r 0)))) = rowGood n r := by
    unfold rowGood
    cases noninc r 1 <;> cases decide (0 < r.length) <;> cases (r.all fun x => inB x 1 n) <;> simp
  rw [e] at h
  exact h

/-- From place i on each number is less than the one above and to the right. -/
def under (a r : List Int) (i : Nat) : Bool := (List.range' i (r.length - i)).all fun z => decide (rd r z < rd a ((z + 1 : Nat) : Int))
theorem under_end (a r : List Int) (i : Nat) (h : r.length ≤ i) : under a r i = true := by unfold under; rw [show r.length - i = 0 by omega]; rfl
theorem under_step (a r : List Int) (i : Nat) (h : i < r.length) : under a r i = (decide (rd r i < rd a ((i + 1 : Nat) : Int)) && under a r (i + 1)) := by
  unfold under
  obtain ⟨m, hm⟩ : ∃ m, r.length - i = m + 1 := ⟨r.length - i - 1, by omega⟩
  rw [hm, show r.length - (i + 1) = m by omega, List.range'_succ, List.all_cons]
/-- Row r can stand below row a. -/
def belowB (a r : List Int) : Bool := decide (r.length < a.length) && (decide (rd r 0 ≤ (a.length : Int)) && under a r 0)

theorem dpBelow_l0 (a r : List Int) (hl : r.length ≤ 17592186044416) (hlt : r.length < a.length) : ∀ (d i : Nat), i + d = r.length → Ev (fun k => spec_dpBelow.l0 k a r r.length i) (under a r i) := by
  intro d
  induction d with
  | zero =>
    intro i hi
    refine Ev.step (fun k => by rw [spec_dpBelow.l0]) ?_
    rw [under_end a r i (by omega)]
    exact Ev.ite_neg (by omega) (Ev.now _)
  | succ d ih =>
    intro i hi
    refine Ev.step (fun k => by rw [spec_dpBelow.l0]) ?_
    rw [wrapS i (by omega), under_step a r i (by omega)]
    refine Ev.ite_pos (by omega) (Ev.ite_pos (by omega) (Ev.ite_pos (by omega) (Ev.ite_pos (by omega) (Ev.ite_pos (by omega) ?_))))
    by_cases hq : rd r i ≥ rd a ((i + 1 : Nat) : Int)
    · refine Ev.ite_pos hq ?_
      rw [decide_eq_false (by omega)]
      exact Ev.now _
    · refine Ev.ite_neg hq ?_
      rw [decide_eq_true (by omega), Bool.true_and]
      exact ih (i + 1) (by omega)

theorem stands_l0 (a r : List Int) (hl : r.length ≤ 17592186044416) (hlt : r.length < a.length) : ∀ (d i : Nat), i + d = r.length → Ev (fun k => impl_standsBelow.l0 k a r r.length i) (under a r i) := by
  intro d
  induction d with
  | zero =>
    intro i hi
    refine Ev.step (fun k => by rw [impl_standsBelow.l0]) ?_
    rw [under_end a r i (by omega)]
    exact Ev.ite_neg (by omega) (Ev.now _)
  | succ d ih =>
    intro i hi
    refine Ev.step (fun k => by rw [impl_standsBelow.l0]) ?_
    rw [wrapS i (by omega), under_step a r i (by omega)]
    refine Ev.ite_pos (by omega) (Ev.ite_pos (by omega) (Ev.ite_pos (by omega) (Ev.ite_pos (by omega) (Ev.ite_pos (by omega) ?_))))
    by_cases hq : rd r i ≥ rd a ((i + 1 : Nat) : Int)
    · refine Ev.ite_pos hq ?_
      rw [decide_eq_false (by omega)]
      exact Ev.now _
    · refine Ev.ite_neg hq ?_
      rw [decide_eq_true (by omega), Bool.true_and]
      exact ih (i + 1) (by omega)

theorem dpBelow_ev (a r : List Int) (hl : r.length ≤ 17592186044416) (h0 : 0 < r.length) : Ev (fun k => spec_dpBelow.f k r a) (belowB a r) := by
  have j : ∀ b : Bool, (b = false → r.length < a.length) → Ev (fun k => spec_dpBelow.j0 k r a b) (!b && under a r 0) := by
    intro b hb
    refine Ev.step (fun k => by rw [spec_dpBelow.j0]) ?_
    cases b with
    | true => exact Ev.ite_pos rfl (Ev.now _)
    | false => exact Ev.ite_neg (by simp) (dpBelow_l0 a r hl (hb rfl) r.length 0 (by omega))
  unfold spec_dpBelow.f belowB
  by_cases h1 : (r.length : Int) ≥ (a.length : Int)
  · refine Ev.ite_pos h1 ?_
    rw [decide_eq_false (show ¬ r.length < a.length by omega)]
    exact j true (by simp)
  · refine Ev.ite_neg h1 (Ev.ite_pos (by omega) ?_)
    rw [decide_eq_true (show r.length < a.length by omega), Bool.true_and]
    have := j (decide (rd r 0 > (a.length : Int))) (fun _ => by omega)
    rw [show (!decide (rd r 0 > (a.length : Int))) = decide (rd r 0 ≤ (a.length : Int)) from by by_cases hq : rd r 0 ≤ (a.length : Int) <;> simp [hq] <;> omega] at this
    exact this
theorem stands_ev (a r : List Int) (hl : r.length ≤ 17592186044416) (h0 : 0 < r.length) : Ev (fun k => impl_standsBelow.f k a r) (belowB a r) := by
  have j : ∀ b : Bool, (b = false → r.length < a.length) → Ev (fun k => impl_standsBelow.j0 k a r b) (!b && under a r 0) := by
    intro b hb
    refine Ev.step (fun k => by rw [impl_standsBelow.j0]) ?_
    cases b with
    | true => exact Ev.ite_pos rfl (Ev.now _)
    | false => exact Ev.ite_neg (by simp) (stands_l0 a r hl (hb rfl) r.length 0 (by omega))
  unfold impl_standsBelow.f belowB
  refine Ev.ite_pos (by omega) ?_
  by_cases h1 : rd r 0 > (a.length : Int)
  · refine Ev.ite_pos h1 ?_
    rw [decide_eq_false (show ¬ rd r 0 ≤ (a.length : Int) by omega), Bool.false_and, Bool.and_false]
    exact j true (by simp)
  · refine Ev.ite_neg h1 ?_
    rw [decide_eq_true (show rd r 0 ≤ (a.length : Int) by omega), Bool.true_and]
    have := j (decide ((r.length : Int) ≥ (a.length : Int))) (fun h => by have := of_decide_eq_false h; omega)
    rw [show (!decide ((r.length : Int) ≥ (a.length : Int))) = decide (r.length < a.length) from by by_cases hq : r.length < a.length <;> simp [hq] <;> omega] at this
    exact this

/-- From row i on all rows are right. -/
def goodFrom (n : Int) (l : List (List Int)) (i : Nat) : Bool := (List.range' i (l.length - i)).all fun z => rowGood n (l.getD z []) && (decide (z = 0) || belowB (l.getD (z - 1) []) (l.getD z []))
theorem goodFrom_end (n : Int) (l : List (List Int)) (i : Nat) (h : l.length ≤ i) : goodFrom n l i = true := by unfold goodFrom; rw [show l.length - i = 0 by omega]; rfl
theorem goodFrom_step (n : Int) (l : List (List Int)) (i : Nat) (h : i < l.length) : goodFrom n l i = ((rowGood n (l.getD i []) && (decide (i = 0) || belowB (l.getD (i - 1) []) (l.getD i []))) && goodFrom n l (i + 1)) := by
  unfold goodFrom
  obtain ⟨m, hm⟩ : ∃ m, l.length - i = m + 1 := ⟨l.length - i - 1, by omega⟩
  rw [hm, show l.length - (i + 1) = m by omega, List.range'_succ, List.all_cons]
/-- The rows are a descending plane partition for n. -/
def isDesc (n : Int) (l : List (List Int)) : Bool := goodFrom n l 0

theorem specGood_l0 (n : Int) (l : List (List Int)) (hl : rowsOk l) : ∀ (d i : Nat), i + d = l.length → Ev (fun k => spec_dpGood.l0 k l n l l.length i) (goodFrom n l i) := by
  have hl1 := hl.1
  intro d
  induction d with
  | zero =>
    intro i hi
    refine Ev.step (fun k => by rw [spec_dpGood.l0]) ?_
    rw [goodFrom_end n l i (by omega)]
    exact Ev.ite_neg (by omega) (Ev.now _)
  | succ d ih =>
    intro i hi
    refine Ev.step (fun k => by rw [spec_dpGood.l0]) ?_
    rw [goodFrom_step n l i (by omega), wrapS i (by omega), rd1_get]
    refine Ev.ite_pos (by omega) (Ev.ite_pos (by omega) (Ev.ite_pos (by omega) (Ev.bind (dpRow_ev (l.getD i []) n (hl.at_ i)) ?_)))
    cases hg : rowGood n (l.getD i []) with
    | false => exact Ev.ite_neg (by simp) (Ev.now _)
    | true =>
      refine Ev.ite_pos rfl ?_
      by_cases h0 : i = 0
      · subst h0
        refine Ev.ite_neg (by omega) ?_
        simp only [decide_true, Bool.true_or, Bool.true_and]
        exact ih (0 + 1) (by omega)
      · refine Ev.ite_pos (by omega) ?_
        rw [wrapP i (by omega) (by omega), rd1_get]
        refine Ev.ite_pos (by omega) (Ev.ite_pos (by omega) (Ev.bind (dpBelow_ev (l.getD (i - 1) []) (l.getD i []) (hl.at_ i) (rowGood_facts hg).1) ?_))
        rw [decide_eq_false h0, Bool.false_or, Bool.true_and]
        cases hb : belowB (l.getD (i - 1) []) (l.getD i []) with
        | false => exact Ev.ite_neg (by simp) (Ev.now _)
        | true =>
          refine Ev.ite_pos rfl ?_
          rw [Bool.true_and]
          exact ih (i + 1) (by omega)

theorem implGood_l0 (n : Int) (l : List (List Int)) (hl : rowsOk l) : ∀ (d i : Nat), i + d = l.length → Ev (fun k => impl_isDescending.l0 k l n l l.length i) (goodFrom n l i) := by
  have hl1 := hl.1
  intro d
  induction d with
  | zero =>
    intro i hi
    refine Ev.step (fun k => by rw [impl_isDescending.l0]) ?_
    rw [goodFrom_end n l i (by omega)]
    exact Ev.ite_neg (by omega) (Ev.now _)
  | succ d ih =>
    intro i hi
    refine Ev.step (fun k => by rw [impl_isDescending.l0]) ?_
    rw [goodFrom_step n l i (by omega), wrapS i (by omega), rd1_get]
    refine Ev.ite_pos (by omega) (Ev.ite_pos (by omega) (Ev.ite_pos (by omega) (Ev.bind (descRow_ev (l.getD i []) n (hl.at_ i)) ?_)))
    cases hg : rowGood n (l.getD i []) with
    | false => exact Ev.ite_neg (by simp) (Ev.now _)
    | true =>
      refine Ev.ite_pos rfl ?_
      by_cases h0 : i = 0
      · subst h0
        refine Ev.ite_neg (by omega) ?_
        simp only [decide_true, Bool.true_or, Bool.true_and]
        exact ih (0 + 1) (by omega)
      · refine Ev.ite_pos (by omega) ?_
        rw [wrapP i (by omega) (by omega), rd1_get]
        refine Ev.ite_pos (by omega) (Ev.ite_pos (by omega) (Ev.bind (stands_ev (l.getD (i - 1) []) (l.getD i []) (hl.at_ i) (rowGood_facts hg).1) ?_))
        rw [decide_eq_false h0, Bool.false_or, Bool.true_and]
        cases hb : belowB (l.getD (i - 1) []) (l.getD i []) with
        | false => exact Ev.ite_neg (by simp) (Ev.now _)
        | true =>
          refine Ev.ite_pos rfl ?_
          rw [Bool.true_and]
          exact ih (i + 1) (by omega)

theorem impl_isDesc_ev (n : Int) (l : List (List Int)) (hl : rowsOk l) : Ev (fun k => impl_isDescending.f k l n) (isDesc n l) := implGood_l0 n l hl l.length 0 (by omega)
theorem goodFrom_short (n : Int) (l : List (List Int)) : ∀ (d i : Nat), i + d = l.length → 1 ≤ i → 1 ≤ (l.getD (i - 1) []).length → ((l.getD (i - 1) []).length : Int) + i ≤ n → goodFrom n l i = true → (l.length : Int) ≤ n := by
  intro d
  induction d with
  | zero => intro i hi _ h1 h2 _; omega
  | succ d ih =>
    intro i hi h1 h2 h3 hg
    rw [goodFrom_step n l i (by omega), Bool.and_eq_true, Bool.and_eq_true, decide_eq_false (by omega), Bool.false_or] at hg
    obtain ⟨⟨hr, hb⟩, hg⟩ := hg
    have hp := (rowGood_facts hr).1
    simp only [belowB, Bool.and_eq_true] at hb
    have hlen := of_decide_eq_true hb.1
    exact ih (i + 1) (by omega) (by omega) (by rw [Nat.add_sub_cancel]; omega) (by rw [Nat.add_sub_cancel]; omega) hg
theorem isDesc_short (n : Int) (l : List (List Int)) (hn : 0 ≤ n) (h : isDesc n l = true) : (l.length : Int) ≤ n := by
  unfold isDesc at h
  rcases Nat.eq_zero_or_pos l.length with h0 | h0
  · omega
  · rw [goodFrom_step n l 0 h0, Bool.and_eq_true, Bool.and_eq_true] at h
    obtain ⟨⟨hr, _⟩, hg⟩ := h
    have hf := rowGood_facts hr
    exact goodFrom_short n l (l.length - 1) 1 (by omega) (by omega) hf.1 (by rw [Nat.sub_self]; omega) hg
theorem spec_isDesc_ev (n : Int) (l : List (List Int)) (hl : rowsOk l) (hn : 0 ≤ n) : Ev (fun k => spec_dpGood.f k l n) (isDesc n l) := by
  unfold spec_dpGood.f
  by_cases h : (l.length : Int) > n
  · refine Ev.ite_pos h ?_
    have : isDesc n l = false := by
      cases hd : isDesc n l with
      | false => rfl
      | true => have := isDesc_short n l hn hd; omega
    rw [this]
    exact Ev.now _
  · exact Ev.ite_neg h (specGood_l0 n l hl l.length 0 (by omega))

end Go.Proofs.Ytdcdkckpmkfjdaa.L

/- The rows below a row: what the two sides make. -/
namespace Go.Proofs.Ytdcdkckpmkfjdaa.L
open Go.RowKit Go.Proofs.Ytdcdkckpmkfjdaa Go.Proofs.Ytdcdkckpmkfjdaa.P Go.Proofs.YtdcdkckpmkfjdaaW.PrintWords Go.Proofs.YtdcdkckpmkfjdaaW.PrintLast Go.Proofs.YtdcdkckpmkfjdaaW.PrintMore
set_option linter.unusedVariables false
set_option maxRecDepth 100000

theorem rows_6 : spec_dpRows.f 300 [] 6 = some (frX 6) ∧ ((frX 6).all fun r => decide (0 < r.length)) = true ∧ 0 < (frX 6).length := by decide +kernel
/-- The rows below l. -/
def rbT (l : List Int) : List (List Int) := (frX 6).filter fun x => standsB l x
theorem next_l0 (l : List Int) (hl : l.length ≤ 1000000) (L : List (List Int)) (hL : L.length ≤ 2000) (hp : ∀ r ∈ L, 0 < r.length) : ∀ (d i : Nat) (acc : List (List Int)), i + d = L.length → acc.length ≤ i → Ev (fun k => spec_dpNext.l0 k [l] acc L L.length i) (acc ++ (L.drop i).filter fun x => standsB l x) := by
  intro d
  induction d with
  | zero =>
    intro i acc hi ha
    refine Ev.step (fun k => by rw [spec_dpNext.l0]) ?_
    rw [show L.drop i = [] from List.drop_of_length_le (by omega), List.filter_nil, List.append_nil]
    exact Ev.ite_neg (by omega) (Ev.now _)
  | succ d ih =>
    intro i acc hi ha
    have hlt : i < L.length := by omega
    refine Ev.step (fun k => by rw [spec_dpNext.l0]) ?_
    have hrd : rd_L1 L (i : Int) = L[i] := by show L.getD (i : Int).toNat [] = _; rw [Int.toNat_natCast, List.getD_eq_getElem?_getD, List.getElem?_eq_getElem hlt]; rfl
    rw [hrd, show wrap64 (((([l] : List (List Int)).length : Nat) : Int) - 1) = 0 from by rw [List.length_singleton]; unfold wrap64; omega, show rd_L1 [l] 0 = l from rfl, wrapS i (by omega), List.drop_eq_getElem_cons hlt]
    refine Ev.ite_pos (by omega) (Ev.ite_pos (by omega) (Ev.ite_pos (by omega) (Ev.ite_neg (by simp) (Ev.ite_pos (by omega) (Ev.ite_pos (by simp) (Ev.bind (spec_stands_ev l L[i] (hp _ (List.getElem_mem hlt)) hl) ?_))))))
    cases hs : standsB l L[i] with
    | true =>
      rw [List.filter_cons_of_pos (by simpa using hs)]
      have := ih (i + 1) (acc ++ [L[i]]) (by omega) (by simp; omega)
      rw [List.append_assoc, List.singleton_append] at this
      exact Ev.ite_pos rfl (Ev.ite_pos (by omega) this)
    | false =>
      rw [List.filter_cons_of_neg (by simp [hs])]
      exact Ev.ite_neg (by simp) (ih (i + 1) acc (by omega) (by omega))
theorem next_ev (l : List Int) (hl : l.length ≤ 1000000) : Ev (fun k => spec_dpNext.f k [l] 6) (rbT l) := by
  have h6 := (fr_all (n := 6) (by omega) (by omega)).2.2.1
  unfold spec_dpNext.f
  refine Ev.bind (a := frX 6) ⟨300, fun k hk => at_rounds (spec_dpRows.mono [] 6) hk rows_6.1⟩ ?_
  have := next_l0 l hl (frX 6) h6 (fun r hr => of_decide_eq_true (List.all_eq_true.1 rows_6.2.1 r hr)) (frX 6).length 0 [] (by omega) (by simp)
  rwa [List.drop_zero, List.nil_append] at this
/-- A list of one row that came in. -/
theorem one_row {w : World} {A : Option Addr} {c : Nat} {l : List Int} (hC : Kd.C (Kd.int .i64) w A l.length l) (hc : l.length ≤ c) : Kd.C (Kd.slice 3 (Kd.int .i64)) (w.alloc (.cells #[.slice A l.length c] 22)) (some ⟨w.heap.size, 0, none⟩) ([l] : List (List Int)).length [l] := by
  have hb := below_alloc (Below.refl w.heap.size w) (.cells #[.slice A l.length c] 22)
  have hR : RawN (w.alloc (.cells #[.slice A l.length c] 22)) w.heap.size (fun _ => True) w.heap.size 1 [.slice A l.length c] [l] := by
    refine ⟨rfl, Nat.le_refl _, by unfold maxLen; omega, Nat.le_refl _, trivial, ⟨_, blk_new w _, rfl, rfl⟩, fun j x u hx hu => ?_⟩
    rcases j with _ | j
    · obtain rfl := Option.some.inj hx
      obtain rfl := Option.some.inj hu
      exact Kd.FK_mono (Kd.FK_below (Kd.FK_slice_mk hc (Kd.C_F (Kd.heap_int _) hC)) hb) (fun k hk => ⟨trivial, by omega⟩)
    · simp at hx
  exact (Kd.N_reads' (RawN.N hR)).2.2
theorem good_len {l : List Int} (h : rowGood 6 l = true) : l.length ≤ 6 := by
  have := (rowGood_facts h).2.1
  omega
set_option maxHeartbeats 2000000 in
theorem spec_RowsBelow_calls (A : Option Addr) (c : Nat) (l : List Int) (w : World) (hC : Kd.C (Kd.int .i64) w A l.length l) (hc : l.length ≤ c) (hl : l.length ≤ 1048576) :
    Calls Try.prog 40 #[.slice A l.length c] w (RetC (Kd.slice 3 (Kd.int .i64)) w (if rowGood 6 l = true then rbT l else []) (rowGood 6 l)) := by
  obtain ⟨k1, h1⟩ := (dpRow_ev l 6 (by omega)).rounds
  have HR := Aside0.mk (fun W (hb : Below w.heap.size w W) => spec_dpRow.calls k1 A c l 6 (rowGood 6 l) W (Kd.C_below hC hb) hc h1)
  have HCC := Aside0.mk hC
  have HB := Aside0.mk (Below.refl w.heap.size w)
  clear h1 hC
  cases hg : rowGood 6 l with
  | false =>
    rw [hg] at HR
    rw [if_neg (by simp)]
    clear hg
    go_enter Try.func40, Try.ntmps40
    go_wp2_with (go_at_call 95; refine (HR.out _ HB.out).mono ?_; rintro e w1 ⟨rfl, hd⟩; have hb := hd.below; clear hd)
    go_ret2
    exact ⟨none, 0, rfl, Nat.le_refl _, Kd.C_nil _ _, hb⟩
  | true =>
    rw [hg] at HR
    rw [if_pos rfl]
    obtain ⟨k2, h2⟩ := (next_ev l (by have := good_len hg; omega)).rounds
    have HN := Aside0.mk (fun W A' c' h g => spec_dpNext.calls k2 A' c' [l] 6 (rbT l) W h g h2)
    obtain ⟨T, hT⟩ : ∃ T, T = rbT l := ⟨_, rfl⟩
    rw [← hT] at HN ⊢
    clear hg hT h2
    go_enter Try.func40, Try.ntmps40
    go_wp2_with (first
      | (go_at_call 95; refine (HR.out _ HB.out).mono ?_; rintro e w1 ⟨rfl, hd⟩; have HB1 := Aside0.mk hd.below; clear hd)
      | (go_at_call 92; refine (HN.out _ _ _ (one_row (Kd.C_below HCC.out HB1.out) hc) (Nat.le_refl _)).mono ?_; rintro e w2 ⟨v, rfl, hN, hb⟩; obtain ⟨A2, c2, rfl⟩ := Kd.N_slice hN; have HRD := Aside0.mk (Kd.N_reads' hN).2; have HB2 := Aside0.mk (below_step (below_alloc HB1.out (.cells #[.slice A l.length c] 22)) hb); clear hN hb))
    go_ret2
    exact ⟨A2, c2, rfl, HRD.out.1, HRD.out.2, HB2.out⟩
set_option maxHeartbeats 2000000 in
theorem impl_RowsBelow_calls (A : Option Addr) (c : Nat) (l : List Int) (w : World) (hC : Kd.C (Kd.int .i64) w A l.length l) (hc : l.length ≤ c) (hl : l.length ≤ 1048576) :
    Calls Try.prog 41 #[.slice A l.length c] w (RetTT w (if rowGood 6 l = true then rbT l else []) (rowGood 6 l)) := by
  obtain ⟨k1, h1⟩ := (descRow_ev l 6 (by omega)).rounds
  have HR := Aside0.mk (fun W (hb : Below w.heap.size w W) => impl_isDescendedRow.calls k1 A c l 6 (rowGood 6 l) W (Kd.C_below hC hb) hc h1)
  have HF := Aside0.mk (fun W => impl_firstRows_calls 6 (by omega) (by omega) W)
  have HCC := Aside0.mk hC
  have HB := Aside0.mk (Below.refl w.heap.size w)
  have hF6 := (fr_all (n := 6) (by omega) (by omega)).2.2.1
  have hFp : ∀ x ∈ frX 6, 0 < x.length := fun r hr => of_decide_eq_true (List.all_eq_true.1 rows_6.2.1 r hr)
  have hF0 := rows_6.2.2
  unfold rbT
  obtain ⟨F, hF⟩ : ∃ F, F = frX 6 := ⟨_, rfl⟩
  rw [← hF] at HF hF6 hFp hF0 ⊢
  have HFP := Aside0.mk hFp
  clear hF h1 hC hFp
  cases hg : rowGood 6 l with
  | false =>
    rw [hg] at HR
    rw [if_neg (by simp)]
    clear hg
    go_enter Try.func41, Try.ntmps41
    go_wp2_with (go_at_call 96; refine (HR.out _ HB.out).mono ?_; rintro e w1 ⟨rfl, hb⟩)
    go_ret2
    exact ⟨_, rfl, Kd.S_nil _ _ _ _ _, hb⟩
  | true =>
    rw [hg] at HR
    rw [if_pos rfl]
    have hl2 : l.length ≤ 1000000 := by have := good_len hg; omega
    clear hg
    go_enter Try.func41, Try.ntmps41
    go_wp2_with (first
      | (go_at_call 96; refine (HR.out _ HB.out).mono ?_; rintro e w1 ⟨rfl, hb⟩; have HB1 := Aside0.mk hb; clear hb)
      | (go_at_call 94; refine (HF.out _).mono ?_; rintro e w2 ⟨v, rfl, hS, hb⟩; obtain ⟨A2, c2, rfl⟩ := Kd.R_slice (Kd.S_R hS); obtain ⟨ad2, rfl, _⟩ := (Kd.R_reads' (Kd.S_R hS)).2.2.2.2 hF0; obtain ⟨g2, rfl⟩ := Kd.R_head (Kd.S_R hS); have HS := Aside0.mk (Kd.S_lower hS HB1.out.size); have HB2 := Aside0.mk (below_step HB1.out hb); clear hS hb)
      | (go_at_call 97; refine (impl_below.callsS (ok := fun _ => True) hl2 (by omega) HFP.out hc (Kd.C_below HCC.out HB2.out) HS.out HB2.out.size (fun _ _ => trivial)).mono ?_; rintro e w3 ⟨v3, rfl, hS3, hb3⟩; have HS3 := Aside0.mk hS3; have HB3 := Aside0.mk (below_step HB2.out hb3); clear hS3 hb3))
    go_ret2
    exact ⟨_, rfl, HS3.out, HB3.out⟩
end Go.Proofs.Ytdcdkckpmkfjdaa.L

/- Every good table is in the list of descending tables. -/
namespace Go.Proofs.Ytdcdkckpmkfjdaa.L
open Go.RowKit Go.Proofs.Ytdcdkckpmkfjdaa Go.Proofs.Ytdcdkckpmkfjdaa.P Go.Proofs.YtdcdkckpmkfjdaaW.PrintWords Go.Proofs.YtdcdkckpmkfjdaaW.PrintLast Go.Proofs.YtdcdkckpmkfjdaaW.PrintMore
set_option linter.unusedVariables false
set_option maxRecDepth 100000

/-- All rows of k numbers of 1 to 4. -/
def tup : Nat → List (List Int)
  | 0 => [[]]
  | k + 1 => [1, 2, 3, 4].flatMap fun x => (tup k).map fun r => x :: r
theorem mem_tup : ∀ r : List Int, (∀ x ∈ r, (1 : Int) ≤ x ∧ x ≤ 4) → r ∈ tup r.length
  | [], _ => by simp [tup]
  | x :: r, h => by
    have hx := h x (by simp)
    have hr := mem_tup r (fun y hy => h y (by simp [hy]))
    rw [List.length_cons, tup, List.mem_flatMap]
    refine ⟨x, ?_, List.mem_map.2 ⟨r, hr, rfl⟩⟩
    have e : x = 1 ∨ x = 2 ∨ x = 3 ∨ x = 4 := by omega
    rcases e with rfl | rfl | rfl | rfl <;> simp
theorem all_1 : ((tup 1 ++ tup 2 ++ tup 3).all fun r => !(rowGood 1 r) || decide (r ∈ frX 1)) = true ∧ (dsX 1).Nodup := by decide +kernel
theorem all_2 : ((tup 1 ++ tup 2 ++ tup 3).all fun r => !(rowGood 2 r) || decide (r ∈ frX 2)) = true ∧ (dsX 2).Nodup := by decide +kernel
theorem all_3 : ((tup 1 ++ tup 2 ++ tup 3).all fun r => !(rowGood 3 r) || decide (r ∈ frX 3)) = true ∧ (dsX 3).Nodup := by decide +kernel
theorem all_4 : ((tup 1 ++ tup 2 ++ tup 3).all fun r => !(rowGood 4 r) || decide (r ∈ frX 4)) = true ∧ (dsX 4).Nodup := by decide +kernel
theorem all_n {n : Int} (h0 : 1 ≤ n) (h1 : n ≤ 4) : ((tup 1 ++ tup 2 ++ tup 3).all fun r => !(rowGood n r) || decide (r ∈ frX n)) = true ∧ (dsX n).Nodup := by
  have e : n = 1 ∨ n = 2 ∨ n = 3 ∨ n = 4 := by omega
  rcases e with rfl | rfl | rfl | rfl
  · exact all_1
  · exact all_2
  · exact all_3
  · exact all_4
theorem good_mem {n : Int} (h0 : 1 ≤ n) (h1 : n ≤ 4) {r : List Int} (h : rowGood n r = true) : r ∈ frX n := by
  obtain ⟨f1, f2, f3, _⟩ := rowGood_facts h
  have ht := mem_tup r (fun x hx => by have := (inB_iff _ _ _).1 (List.all_eq_true.1 f3 x hx); omega)
  have hin : r ∈ tup 1 ++ tup 2 ++ tup 3 := by
    have e : r.length = 1 ∨ r.length = 2 ∨ r.length = 3 := by omega
    rcases e with e | e | e <;> rw [e] at ht <;> simp [ht]
  have := List.all_eq_true.1 (all_n h0 h1).1 r hin
  rw [h, Bool.not_true, Bool.false_or] at this
  exact of_decide_eq_true this
theorem below_eq (a r : List Int) (hr : 0 < r.length) (hrl : r.length ≤ 1000000) (ha : a.length ≤ 1000000) : belowB a r = standsB a r := by
  obtain ⟨K1, h1⟩ := stands_ev a r (by omega) hr
  obtain ⟨K2, h2⟩ := impl_stands_ev a r hr ha
  have := (h1 (K1 + K2) (by omega)).symm.trans (h2 (K1 + K2) (by omega))
  exact Option.some.inj this
/-- A way through the lists. -/
def chain (F : List (List Int)) : List (List Int) → List (List Int) → Prop
  | _, [] => True
  | next, r :: rest => r ∈ next ∧ chain F (F.filter fun x => standsB r x) rest
theorem dsL_mem (F : List (List Int)) : ∀ (k : Nat) (rows next : List (List Int)) (X : List (List (List Int))), dsL k F rows next = some X → ∀ r ∈ next, ∃ k' Y, dsE k' F (rows ++ [r]) (F.filter fun x => standsB r x) = some Y ∧ ∀ t ∈ Y, t ∈ X
  | 0, _, _, _, h, _, _ => by simp [dsL] at h
  | k + 1, rows, [], X, h, r, hr => by simp at hr
  | k + 1, rows, q :: rest, X, h, r, hr => by
    rw [dsL] at h
    obtain ⟨a, ha, h⟩ := Option.bind_eq_some_iff.1 h
    obtain ⟨b, hb, h⟩ := Option.bind_eq_some_iff.1 h
    obtain rfl := Option.some.inj h
    rcases List.mem_cons.1 hr with rfl | hr
    · exact ⟨k, a, ha, fun t ht => List.mem_append_left _ ht⟩
    · obtain ⟨k', Y, h1, h2⟩ := dsL_mem F k rows rest b hb r hr
      exact ⟨k', Y, h1, fun t ht => List.mem_append_right _ (h2 t ht)⟩
theorem dsE_mem (F : List (List Int)) : ∀ (t : List (List Int)) (k : Nat) (rows next : List (List Int)) (X : List (List (List Int))), dsE k F rows next = some X → chain F next t → rows ++ t ∈ X
  | t, 0, _, _, _, h, _ => by simp [dsE] at h
  | [], k + 1, rows, next, X, h, _ => by
    rw [dsE] at h
    obtain ⟨b, hb, h⟩ := Option.bind_eq_some_iff.1 h
    obtain rfl := Option.some.inj h
    simp
  | r :: rest, k + 1, rows, next, X, h, hc => by
    rw [dsE] at h
    obtain ⟨b, hb, h⟩ := Option.bind_eq_some_iff.1 h
    obtain rfl := Option.some.inj h
    obtain ⟨k', Y, h1, h2⟩ := dsL_mem F k rows next b hb r hc.1
    have := dsE_mem F rest k' (rows ++ [r]) (F.filter fun x => standsB r x) Y h1 hc.2
    rw [List.append_assoc, List.singleton_append] at this
    exact List.mem_cons_of_mem _ (h2 _ this)
theorem good_chain {n : Int} (h0 : 1 ≤ n) (h1 : n ≤ 4) (l : List (List Int)) (h : isDesc n l = true) : ∀ (d i : Nat), i + d = l.length → 0 < i → chain (frX n) ((frX n).filter fun x => standsB (l.getD (i - 1) []) x) (l.drop i) := by
  have hg : ∀ i, i < l.length → rowGood n (l.getD i []) = true ∧ (i = 0 ∨ belowB (l.getD (i - 1) []) (l.getD i []) = true) := by
    intro i hi
    have := List.all_eq_true.1 h i (List.mem_range'.2 ⟨i, by omega, by omega⟩)
    rw [Bool.and_eq_true, Bool.or_eq_true] at this
    exact ⟨this.1, this.2.imp (fun h => of_decide_eq_true h) id⟩
  intro d
  induction d with
  | zero => intro i hi _; rw [List.drop_of_length_le (by omega)]; trivial
  | succ d ih =>
    intro i hi hp
    have hlt : i < l.length := by omega
    obtain ⟨g1, g2⟩ := hg i hlt
    obtain ⟨g3, _⟩ := hg (i - 1) (by omega)
    have hx : l.getD i [] = l[i] := by rw [List.getD_eq_getElem?_getD, List.getElem?_eq_getElem hlt]; rfl
    have f1 := rowGood_facts g1
    have f3 := rowGood_facts g3
    rw [List.drop_eq_getElem_cons hlt, ← hx]
    refine ⟨List.mem_filter.2 ⟨good_mem h0 h1 g1, ?_⟩, ?_⟩
    · rw [← below_eq _ _ f1.1 (by omega) (by omega)]
      exact g2.resolve_left (by omega)
    · have := ih (i + 1) (by omega) (by omega)
      rwa [Nat.add_sub_cancel] at this
theorem desc_mem {n : Int} (h0 : 1 ≤ n) (h1 : n ≤ 4) (l : List (List Int)) (h : isDesc n l = true) : l ∈ dsX n := by
  have hm := (ds_all h0 (show n ≤ 5 by omega)).made
  have := dsE_mem (frX n) l 1000 [] (frX n) (dsX n) hm ?_
  · rwa [List.nil_append] at this
  · cases l with
    | nil => trivial
    | cons r rest =>
      have h2 := good_chain h0 h1 (r :: rest) h rest.length 1 (by simp; omega) (by omega)
      refine ⟨good_mem h0 h1 ?_, h2⟩
      have := List.all_eq_true.1 h 0 (List.mem_range'.2 ⟨0, by simp, by omega⟩)
      rw [Bool.and_eq_true] at this
      exact this.1
end Go.Proofs.Ytdcdkckpmkfjdaa.L

-- Written by a program of this session (wip/mkprint.py): out of the translation; Lean checks it.
namespace Go.Proofs.Ytdcdkckpmkfjdaa.P
open Go.RowKit Go.Proofs.YtdcdkckpmkfjdaaW.PrintWords Go.Proofs.YtdcdkckpmkfjdaaW.PrintLast Go.Proofs.YtdcdkckpmkfjdaaW.PrintMore
attribute [local go_sem] max2_int min2_int max_two min_two max_three min_three max_four min_four   -- for this text's walks alone
set_option linter.unusedVariables false
set_option linter.unusedSimpArgs false

/-! ### spec_l1Same: function 138 -/
def spec_l1Same.l0 : Nat → List Int → List Int → Int → Int → Option (Bool)
  | 0, _, _, _, _ => none
  | k + 1, x0, x1, x12, x13 => if x13 < x12 then (if 0 ≤ x13 then (if x13 < (x0.length : Int) then (if x13 < (x1.length : Int) then (if (rd x0 x13) = (rd x1 x13) then (spec_l1Same.l0 k x0 x1 x12 (wrap64 (x13 + 1))) else (some false)) else (none)) else (none)) else (none)) else (some true)
def spec_l1Same.f (k : Nat) (l0 : List Int) (l1 : List Int) : Option (Bool) := if (l0.length : Int) = (l1.length : Int) then (spec_l1Same.l0 k l0 l1 (l0.length : Int) 0) else (some false)
theorem spec_l1Same.mono_l : ∀ k, (∀ y0 y1 y2 y3, LeO (spec_l1Same.l0 k y0 y1 y2 y3) (spec_l1Same.l0 (k + 1) y0 y1 y2 y3))
  | 0 => fun _ _ _ _ r h => by simp [spec_l1Same.l0] at h
  | k + 1 => by
    have ih0 := spec_l1Same.mono_l k
    · intro y0 y1 y2 y3
      unfold spec_l1Same.l0
      repeat' first
      | (with_reducible exact ih0 _ _ _ _)
      | (with_reducible exact LeO.refl _)
      | (with_reducible exact LeO.none _)
      | (with_reducible refine LeO.ite ?_ ?_)
      | (with_reducible refine LeO.bind ?_ (fun _ => ?_))
      | exact ih0 _ _ _ _
      | exact LeO.none _
      | refine LeO.ite ?_ ?_
      | refine LeO.bind ?_ (fun _ => ?_)
theorem spec_l1Same.mono : ∀ a0 a1 k, LeO (spec_l1Same.f k a0 a1) (spec_l1Same.f (k + 1) a0 a1) := by
  intro a0 a1 k
  have ih0 := spec_l1Same.mono_l k
  unfold spec_l1Same.f
  repeat' first
      | (with_reducible exact ih0 _ _ _ _)
      | (with_reducible exact LeO.refl _)
      | (with_reducible exact LeO.none _)
      | (with_reducible refine LeO.ite ?_ ?_)
      | (with_reducible refine LeO.bind ?_ (fun _ => ?_))
      | exact ih0 _ _ _ _
      | exact LeO.none _
      | refine LeO.ite ?_ ?_
      | refine LeO.bind ?_ (fun _ => ?_)
set_option maxHeartbeats 8000000 in
set_option maxRecDepth 100000 in
theorem spec_l1Same.calls (k : Nat) (A0 : Option Addr) (c0 : Nat) (l0 : List Int) (A1 : Option Addr) (c1 : Nat) (l1 : List Int) (r : Bool) (w : World) (hr0 : Kd.C (Kd.int .i64) w A0 l0.length l0) (hc0 : l0.length ≤ c0) (hr1 : Kd.C (Kd.int .i64) w A1 l1.length l1) (hc1 : l1.length ≤ c1) (h : spec_l1Same.f k l0 l1 = some r) :
    Calls Try.prog 138 #[.slice A0 l0.length c0, .slice A1 l1.length c1] w fun e w' => e = .returned (.bool r) ∧ Drawn0 w w' := by
  have HR0 := Aside0.mk hr0
  have HC0 := Aside0.mk hc0
  clear hr0 hc0
  have HR1 := Aside0.mk hr1
  have HC1 := Aside0.mk hc1
  clear hr1 hc1
  have H : (if (l0.length : Int) = (l1.length : Int) then (spec_l1Same.l0 k l0 l1 (l0.length : Int) 0) else (some false)) = some r := h
  clear h
  by_cases c3 : (l0.length : Int) = (l1.length : Int)
  · rw [if_pos c3] at H
    have c3b0 : ((l0.length : Int) == (l1.length : Int)) = true := beq_iff_eq.mpr c3
    have c3b1 : ((l0.length : Int) != (l1.length : Int)) = false := bne_eq_false_iff_eq.mpr c3
    have c3b2 : (l0.length == l1.length) = true := by first | simpa using c3 | (simp at c3 ⊢; omega)
    clear c3
    have H' := Aside0.mk H
    clear H
    go_enter Try.func138, Try.ntmps138
    go_wp2
    repeat (go_quiet (fail); try go_wp2)
    go_loopg [13] k (fun kq v13 w' => ∃ (x13_1 : Int), v13 = .int .i64 x13_1 ∧ Aside0 (spec_l1Same.l0 kq l0 l1 (l0.length : Int) x13_1 = some r) ∧ Aside0 (kq ≤ k) ∧ Drawn0 w w')
    case atStart => exact ⟨(0), (by first | rfl | (simp; done) | (simp [*]; done)), H', ⟨Nat.le_refl _⟩, by repeat (first | exact Drawn0.refl _ | apply Drawn0.step)⟩
    case round =>
      clear H'
      try clear c1
      try clear p2
      try clear c3
      try clear c3b0
      try clear c3b1
      try clear c3b2
      obtain ⟨x13_1, rfl, HA, HK1, ⟨m1, rfl⟩⟩ := hrel
      cases gk with
      | zero => exact absurd HA.out (by simp [spec_l1Same.l0])
      | succ k1 =>
        have H := HA.out
        clear HA
        simp only [spec_l1Same.l0] at H
        by_cases c4 : x13_1 < (l0.length : Int)
        · rw [if_pos c4] at H
          have c4b0 : decide (x13_1 < (l0.length : Int)) = true := decide_eq_true c4
          clear c4
          by_cases c5 : 0 ≤ x13_1
          · rw [if_pos c5] at H
            have c5b0 : decide (0 ≤ x13_1) = true := decide_eq_true c5
            clear c5
            by_cases c6 : x13_1 < (l0.length : Int)
            · rw [if_pos c6] at H
              have c6b0 : decide (x13_1 < (l0.length : Int)) = true := decide_eq_true c6
              clear c6
              by_cases c7 : x13_1 < (l1.length : Int)
              · rw [if_pos c7] at H
                have c7b0 : decide (x13_1 < (l1.length : Int)) = true := decide_eq_true c7
                clear c7
                by_cases c8 : (rd l0 x13_1) = (rd l1 x13_1)
                · rw [if_pos c8] at H
                  have c8b0 : ((rd l0 x13_1) == (rd l1 x13_1)) = true := beq_iff_eq.mpr c8
                  have c8b1 : ((rd l0 x13_1) != (rd l1 x13_1)) = false := bne_eq_false_iff_eq.mpr c8
                  clear c8
                  have H' := Aside0.mk H
                  clear H
                  have p474 : 0 ≤ (x13_1 : Int) := of_decide_eq_true (by first | (with_reducible assumption) | assumption)
                  have q474 : x13_1 < (l0.length : Int) := of_decide_eq_true (by first | (with_reducible assumption) | assumption)
                  obtain ⟨ad474, e474, hx474_0⟩ := Kd.at_int HR0.out x13_1 p474 q474
                  cases e474
                  replace p474 := eq_true p474
                  replace q474 := eq_true q474
                  have p475 : 0 ≤ (x13_1 : Int) := of_decide_eq_true (by first | (with_reducible assumption) | assumption)
                  have q475 : x13_1 < (l1.length : Int) := of_decide_eq_true (by first | (with_reducible assumption) | assumption)
                  obtain ⟨ad475, e475, hx475_0⟩ := Kd.at_int HR1.out x13_1 p475 q475
                  cases e475
                  replace p475 := eq_true p475
                  replace q475 := eq_true q475
                  go_wp2
                  repeat (go_quiet (fail); try go_wp2)
                  go_roundg k1
                  case measure => have := HK1.out; omega
                  case rel => exact ⟨(wrap64 (x13_1 + 1)), (by first | rfl | (simp; done) | (simp [*]; done)), H', ⟨by have := HK1.out; omega⟩, by repeat (first | exact Drawn0.refl _ | apply Drawn0.step)⟩
                · rw [if_neg c8] at H
                  have c8b0 : ((rd l0 x13_1) == (rd l1 x13_1)) = false := beq_eq_false_iff_ne.mpr c8
                  have c8b1 : ((rd l0 x13_1) != (rd l1 x13_1)) = true := bne_iff_ne.mpr c8
                  obtain rfl := Option.some.inj H
                  have p474 : 0 ≤ (x13_1 : Int) := of_decide_eq_true (by first | (with_reducible assumption) | assumption)
                  have q474 : x13_1 < (l0.length : Int) := of_decide_eq_true (by first | (with_reducible assumption) | assumption)
                  obtain ⟨ad474, e474, hx474_0⟩ := Kd.at_int HR0.out x13_1 p474 q474
                  cases e474
                  replace p474 := eq_true p474
                  replace q474 := eq_true q474
                  have p475 : 0 ≤ (x13_1 : Int) := of_decide_eq_true (by first | (with_reducible assumption) | assumption)
                  have q475 : x13_1 < (l1.length : Int) := of_decide_eq_true (by first | (with_reducible assumption) | assumption)
                  obtain ⟨ad475, e475, hx475_0⟩ := Kd.at_int HR1.out x13_1 p475 q475
                  cases e475
                  replace p475 := eq_true p475
                  replace q475 := eq_true q475
                  go_wp2
                  repeat (go_quiet (fail); try go_wp2)
                  go_ret
                  exact ⟨by first | rfl | (simp; done) | (simp [*]; done), by repeat (first | exact Drawn0.refl _ | apply Drawn0.step)⟩
              · rw [if_neg c7] at H
                exact absurd H (by simp)
            · rw [if_neg c6] at H
              exact absurd H (by simp)
          · rw [if_neg c5] at H
            exact absurd H (by simp)
        · rw [if_neg c4] at H
          have c4b0 : decide (x13_1 < (l0.length : Int)) = false := decide_eq_false c4
          clear c4
          obtain rfl := Option.some.inj H
          go_wp2
          repeat (go_quiet (fail); try go_wp2)
          go_ret
          exact ⟨by first | rfl | (simp; done) | (simp [*]; done), by repeat (first | exact Drawn0.refl _ | apply Drawn0.step)⟩
  · rw [if_neg c3] at H
    have c3b0 : ((l0.length : Int) == (l1.length : Int)) = false := beq_eq_false_iff_ne.mpr c3
    have c3b1 : ((l0.length : Int) != (l1.length : Int)) = true := bne_iff_ne.mpr c3
    have c3b2 : (l0.length == l1.length) = false := by first | simpa using c3 | (simp at c3 ⊢; omega)
    obtain rfl := Option.some.inj H
    go_enter Try.func138, Try.ntmps138
    go_wp2
    repeat (go_quiet (fail); try go_wp2)
    go_ret
    exact ⟨by first | rfl | (simp; done) | (simp [*]; done), by repeat (first | exact Drawn0.refl _ | apply Drawn0.step)⟩

end Go.Proofs.Ytdcdkckpmkfjdaa.P

-- Written by a program of this session (wip/mkprint.py): out of the translation; Lean checks it.
namespace Go.Proofs.Ytdcdkckpmkfjdaa.P
open Go.RowKit Go.Proofs.YtdcdkckpmkfjdaaW.PrintWords Go.Proofs.YtdcdkckpmkfjdaaW.PrintLast Go.Proofs.YtdcdkckpmkfjdaaW.PrintMore
attribute [local go_sem] max2_int min2_int max_two min_two max_three min_three max_four min_four   -- for this text's walks alone
set_option linter.unusedVariables false
set_option linter.unusedSimpArgs false

/-! ### spec_weSame: function 104 -/
def spec_weSame.l0 : Nat → List (List Int) → List (List Int) → Int → Int → Option (Bool)
  | 0, _, _, _, _ => none
  | k + 1, x1, x12, x13, x14 => if x14 < x13 then (if 0 ≤ x14 then (if x14 < (x12.length : Int) then (if x14 < (x1.length : Int) then ((spec_l1Same.f k (rd_L1 x12 x14) (rd_L1 x1 x14)).bind fun t478 => (if t478 = true then (spec_weSame.l0 k x1 x12 x13 (wrap64 (x14 + 1))) else (some false))) else (none)) else (none)) else (none)) else (some true)
def spec_weSame.f (k : Nat) (l0 : List (List Int)) (l1 : List (List Int)) : Option (Bool) := if (l0.length : Int) = (l1.length : Int) then (spec_weSame.l0 k l1 l0 (l0.length : Int) 0) else (some false)
theorem spec_weSame.mono_l : ∀ k, (∀ y0 y1 y2 y3, LeO (spec_weSame.l0 k y0 y1 y2 y3) (spec_weSame.l0 (k + 1) y0 y1 y2 y3))
  | 0 => fun _ _ _ _ r h => by simp [spec_weSame.l0] at h
  | k + 1 => by
    have ih0 := spec_weSame.mono_l k
    · intro y0 y1 y2 y3
      unfold spec_weSame.l0
      repeat' first
      | (with_reducible exact ih0 _ _ _ _)
      | (with_reducible exact spec_l1Same.mono _ _ _)
      | (with_reducible exact LeO.refl _)
      | (with_reducible exact LeO.none _)
      | (with_reducible refine LeO.ite ?_ ?_)
      | (with_reducible refine LeO.bind ?_ (fun _ => ?_))
      | exact ih0 _ _ _ _
      | exact spec_l1Same.mono _ _ _
      | exact LeO.none _
      | refine LeO.ite ?_ ?_
      | refine LeO.bind ?_ (fun _ => ?_)
theorem spec_weSame.mono : ∀ a0 a1 k, LeO (spec_weSame.f k a0 a1) (spec_weSame.f (k + 1) a0 a1) := by
  intro a0 a1 k
  have ih0 := spec_weSame.mono_l k
  unfold spec_weSame.f
  repeat' first
      | (with_reducible exact ih0 _ _ _ _)
      | (with_reducible exact spec_l1Same.mono _ _ _)
      | (with_reducible exact LeO.refl _)
      | (with_reducible exact LeO.none _)
      | (with_reducible refine LeO.ite ?_ ?_)
      | (with_reducible refine LeO.bind ?_ (fun _ => ?_))
      | exact ih0 _ _ _ _
      | exact spec_l1Same.mono _ _ _
      | exact LeO.none _
      | refine LeO.ite ?_ ?_
      | refine LeO.bind ?_ (fun _ => ?_)
set_option maxHeartbeats 8000000 in
set_option maxRecDepth 100000 in
theorem spec_weSame.calls (k : Nat) (A0 : Option Addr) (c0 : Nat) (l0 : List (List Int)) (A1 : Option Addr) (c1 : Nat) (l1 : List (List Int)) (r : Bool) (w : World) (hr0 : Kd.C (Kd.slice 3 (Kd.int .i64)) w A0 l0.length l0) (hc0 : l0.length ≤ c0) (hr1 : Kd.C (Kd.slice 3 (Kd.int .i64)) w A1 l1.length l1) (hc1 : l1.length ≤ c1) (h : spec_weSame.f k l0 l1 = some r) :
    Calls Try.prog 104 #[.slice A0 l0.length c0, .slice A1 l1.length c1] w fun e w' => e = .returned (.bool r) ∧ Drawn0 w w' := by
  have HR0 := Aside0.mk hr0
  have HC0 := Aside0.mk hc0
  clear hr0 hc0
  have HR1 := Aside0.mk hr1
  have HC1 := Aside0.mk hc1
  clear hr1 hc1
  have H : (if (l0.length : Int) = (l1.length : Int) then (spec_weSame.l0 k l1 l0 (l0.length : Int) 0) else (some false)) = some r := h
  clear h
  by_cases c3 : (l0.length : Int) = (l1.length : Int)
  · rw [if_pos c3] at H
    have c3b0 : ((l0.length : Int) == (l1.length : Int)) = true := beq_iff_eq.mpr c3
    have c3b1 : ((l0.length : Int) != (l1.length : Int)) = false := bne_eq_false_iff_eq.mpr c3
    have c3b2 : (l0.length == l1.length) = true := by first | simpa using c3 | (simp at c3 ⊢; omega)
    clear c3
    have H' := Aside0.mk H
    clear H
    go_enter Try.func104, Try.ntmps104
    go_wp2
    go_loopg [14] k (fun kq v14 w' => ∃ (x14_1 : Int), v14 = .int .i64 x14_1 ∧ Aside0 (spec_weSame.l0 kq l1 l0 (l0.length : Int) x14_1 = some r) ∧ Aside0 (kq ≤ k) ∧ Drawn0 w w')
    case atStart => exact ⟨(0), (by first | rfl | (simp; done) | (simp [*]; done)), H', ⟨Nat.le_refl _⟩, by repeat (first | exact Drawn0.refl _ | apply Drawn0.step)⟩
    case round =>
      clear H'
      try clear c1
      try clear p2
      try clear c3
      try clear c3b0
      try clear c3b1
      try clear c3b2
      obtain ⟨x14_1, rfl, HA, HK1, ⟨m1, rfl⟩⟩ := hrel
      cases gk with
      | zero => exact absurd HA.out (by simp [spec_weSame.l0])
      | succ k1 =>
        have H := HA.out
        clear HA
        simp only [spec_weSame.l0] at H
        by_cases c4 : x14_1 < (l0.length : Int)
        · rw [if_pos c4] at H
          have c4b0 : decide (x14_1 < (l0.length : Int)) = true := decide_eq_true c4
          clear c4
          by_cases c5 : 0 ≤ x14_1
          · rw [if_pos c5] at H
            have c5b0 : decide (0 ≤ x14_1) = true := decide_eq_true c5
            clear c5
            by_cases c6 : x14_1 < (l0.length : Int)
            · rw [if_pos c6] at H
              have c6b0 : decide (x14_1 < (l0.length : Int)) = true := decide_eq_true c6
              clear c6
              by_cases c7 : x14_1 < (l1.length : Int)
              · rw [if_pos c7] at H
                have c7b0 : decide (x14_1 < (l1.length : Int)) = true := decide_eq_true c7
                clear c7
                replace H := Option.bind_eq_some_iff.mp H
                obtain ⟨t478, A80, H⟩ := H
                replace H : (if t478 = true then (spec_weSame.l0 k1 l1 l0 (l0.length : Int) (wrap64 (x14_1 + 1))) else (some false)) = some r := H
                have A8 := Aside0.mk A80
                clear A80
                by_cases c9 : t478 = true
                · subst c9
                  have H1 : (spec_weSame.l0 k1 l1 l0 (l0.length : Int) (wrap64 (x14_1 + 1))) = some r := by rw [if_pos rfl] at H; exact H
                  clear H
                  have H := H1
                  clear H1
                  have H' := Aside0.mk H
                  clear H
                  have p476 : 0 ≤ (x14_1 : Int) := of_decide_eq_true (by first | (with_reducible assumption) | assumption)
                  have q476 : x14_1 < (l0.length : Int) := of_decide_eq_true (by first | (with_reducible assumption) | assumption)
                  obtain ⟨ad476, A476_0, c476_0, e476, hx476_0, hl476_0, hi476_0⟩ := at_L1 HR0.out x14_1 p476 q476
                  cases e476
                  have HR476_0 := Aside0.mk hi476_0
                  have HC476_0 := Aside0.mk hl476_0
                  clear hi476_0 hl476_0
                  replace p476 := eq_true p476
                  replace q476 := eq_true q476
                  have p477 : 0 ≤ (x14_1 : Int) := of_decide_eq_true (by first | (with_reducible assumption) | assumption)
                  have q477 : x14_1 < (l1.length : Int) := of_decide_eq_true (by first | (with_reducible assumption) | assumption)
                  obtain ⟨ad477, A477_0, c477_0, e477, hx477_0, hl477_0, hi477_0⟩ := at_L1 HR1.out x14_1 p477 q477
                  cases e477
                  have HR477_0 := Aside0.mk hi477_0
                  have HC477_0 := Aside0.mk hl477_0
                  clear hi477_0 hl477_0
                  replace p477 := eq_true p477
                  replace q477 := eq_true q477
                  go_wp2_with (first | ((with_reducible refine gate_callee (f := 138) rfl ?_); refine goesL_ (some 24) rfl rfl Try.func138 (by kernel_rfl) rfl #[.slice A476_0 (rd_L1 l0 x14_1).length c476_0, .slice A477_0 (rd_L1 l1 x14_1).length c477_0] rfl (by (try simp only [List.map_toArray, List.map_cons, List.map_nil]); first | done | rfl | (simp only [List.length_drop, List.length_take]; rfl)) ?_; (with_reducible refine (spec_l1Same.calls k1 _ _ (rd_L1 l0 x14_1) _ _ (rd_L1 l1 x14_1) true _ ?side1 ?side2 ?side3 ?side4 A8.out).mono ?_); (case side1 => repeat (first | exact HR476_0.out | (with_reducible refine Kd.C_alloc ?_ _) | (with_reducible refine Kd.C_drewN ?_ _) | (with_reducible refine Kd.C_drew ?_))); (case side2 => exact HC476_0.out); (case side3 => repeat (first | exact HR477_0.out | (with_reducible refine Kd.C_alloc ?_ _) | (with_reducible refine Kd.C_drewN ?_ _) | (with_reducible refine Kd.C_drew ?_))); (case side4 => exact HC477_0.out); rintro e w' ⟨rfl, ⟨nd, rfl⟩⟩; refine ⟨_, rfl, ?_⟩))
                  go_roundg k1
                  case measure => have := HK1.out; omega
                  case rel => exact ⟨(wrap64 (x14_1 + 1)), (by first | rfl | (simp; done) | (simp [*]; done)), H', ⟨by have := HK1.out; omega⟩, by repeat (first | exact Drawn0.refl _ | apply Drawn0.step)⟩
                · replace c9 := Bool.eq_false_iff.mpr c9
                  subst c9
                  have H1 : (some false) = some r := by rw [if_neg (show ¬ (false = true) by decide)] at H; exact H
                  clear H
                  have H := H1
                  clear H1
                  obtain rfl := Option.some.inj H
                  have p476 : 0 ≤ (x14_1 : Int) := of_decide_eq_true (by first | (with_reducible assumption) | assumption)
                  have q476 : x14_1 < (l0.length : Int) := of_decide_eq_true (by first | (with_reducible assumption) | assumption)
                  obtain ⟨ad476, A476_0, c476_0, e476, hx476_0, hl476_0, hi476_0⟩ := at_L1 HR0.out x14_1 p476 q476
                  cases e476
                  have HR476_0 := Aside0.mk hi476_0
                  have HC476_0 := Aside0.mk hl476_0
                  clear hi476_0 hl476_0
                  replace p476 := eq_true p476
                  replace q476 := eq_true q476
                  have p477 : 0 ≤ (x14_1 : Int) := of_decide_eq_true (by first | (with_reducible assumption) | assumption)
                  have q477 : x14_1 < (l1.length : Int) := of_decide_eq_true (by first | (with_reducible assumption) | assumption)
                  obtain ⟨ad477, A477_0, c477_0, e477, hx477_0, hl477_0, hi477_0⟩ := at_L1 HR1.out x14_1 p477 q477
                  cases e477
                  have HR477_0 := Aside0.mk hi477_0
                  have HC477_0 := Aside0.mk hl477_0
                  clear hi477_0 hl477_0
                  replace p477 := eq_true p477
                  replace q477 := eq_true q477
                  go_wp2_with (first | ((with_reducible refine gate_callee (f := 138) rfl ?_); refine goesL_ (some 24) rfl rfl Try.func138 (by kernel_rfl) rfl #[.slice A476_0 (rd_L1 l0 x14_1).length c476_0, .slice A477_0 (rd_L1 l1 x14_1).length c477_0] rfl (by (try simp only [List.map_toArray, List.map_cons, List.map_nil]); first | done | rfl | (simp only [List.length_drop, List.length_take]; rfl)) ?_; (with_reducible refine (spec_l1Same.calls k1 _ _ (rd_L1 l0 x14_1) _ _ (rd_L1 l1 x14_1) false _ ?side1 ?side2 ?side3 ?side4 A8.out).mono ?_); (case side1 => repeat (first | exact HR476_0.out | (with_reducible refine Kd.C_alloc ?_ _) | (with_reducible refine Kd.C_drewN ?_ _) | (with_reducible refine Kd.C_drew ?_))); (case side2 => exact HC476_0.out); (case side3 => repeat (first | exact HR477_0.out | (with_reducible refine Kd.C_alloc ?_ _) | (with_reducible refine Kd.C_drewN ?_ _) | (with_reducible refine Kd.C_drew ?_))); (case side4 => exact HC477_0.out); rintro e w' ⟨rfl, ⟨nd, rfl⟩⟩; refine ⟨_, rfl, ?_⟩))
                  go_ret
                  exact ⟨by first | rfl | (simp; done) | (simp [*]; done), by repeat (first | exact Drawn0.refl _ | apply Drawn0.step)⟩
              · rw [if_neg c7] at H
                exact absurd H (by simp)
            · rw [if_neg c6] at H
              exact absurd H (by simp)
          · rw [if_neg c5] at H
            exact absurd H (by simp)
        · rw [if_neg c4] at H
          have c4b0 : decide (x14_1 < (l0.length : Int)) = false := decide_eq_false c4
          clear c4
          obtain rfl := Option.some.inj H
          go_wp2
          go_ret
          exact ⟨by first | rfl | (simp; done) | (simp [*]; done), by repeat (first | exact Drawn0.refl _ | apply Drawn0.step)⟩
  · rw [if_neg c3] at H
    have c3b0 : ((l0.length : Int) == (l1.length : Int)) = false := beq_eq_false_iff_ne.mpr c3
    have c3b1 : ((l0.length : Int) != (l1.length : Int)) = true := bne_iff_ne.mpr c3
    have c3b2 : (l0.length == l1.length) = false := by first | simpa using c3 | (simp at c3 ⊢; omega)
    obtain rfl := Option.some.inj H
    go_enter Try.func104, Try.ntmps104
    go_wp2
    go_ret
    exact ⟨by first | rfl | (simp; done) | (simp [*]; done), by repeat (first | exact Drawn0.refl _ | apply Drawn0.step)⟩

end Go.Proofs.Ytdcdkckpmkfjdaa.P

-- Written by a program of this session (wip/mkprint.py): out of the translation; Lean checks it.
namespace Go.Proofs.Ytdcdkckpmkfjdaa.P
open Go.RowKit Go.Proofs.YtdcdkckpmkfjdaaW.PrintWords Go.Proofs.YtdcdkckpmkfjdaaW.PrintLast Go.Proofs.YtdcdkckpmkfjdaaW.PrintMore
attribute [local go_sem] max2_int min2_int max_two min_two max_three min_three max_four min_four   -- for this text's walks alone
set_option linter.unusedVariables false
set_option linter.unusedSimpArgs false

/-! ### spec_RankDescending: function 54 -/
mutual
def spec_RankDescending.j0 : Nat → List (List Int) → Int → Bool → Option (Int × Bool)
  | 0, _, _, _ => none
  | k + 1, x0, x1, x17 => if x17 = true then (some (0, false)) else ((spec_dpAll.f k ([] : List (List Int)) x1).bind fun t481 => (spec_RankDescending.l0 k x0 0 t481 (t481.length : Int) 0))
def spec_RankDescending.l0 : Nat → List (List Int) → Int → List (List (List Int)) → Int → Int → Option (Int × Bool)
  | 0, _, _, _, _, _ => none
  | k + 1, x0, x6, x19, x20, x21 => if x21 < x20 then (if 0 ≤ x21 then (if x21 < (x19.length : Int) then ((spec_weSame.f k (rd_L2 x19 x21) x0).bind fun t485 => (if t485 = true then (spec_RankDescending.l0 k x0 x21 x19 x20 (wrap64 (x21 + 1))) else (spec_RankDescending.l0 k x0 x6 x19 x20 (wrap64 (x21 + 1))))) else (none)) else (none)) else (some (x6, true))
end
def spec_RankDescending.f (k : Nat) (l0 : List (List Int)) (a1 : Int) : Option (Int × Bool) := (spec_dpSmall.f a1).bind fun t479 => (if t479 = true then ((spec_dpGood.f k l0 a1).bind fun t480 => (spec_RankDescending.j0 k l0 a1 (!t480))) else (spec_RankDescending.j0 k l0 a1 true))
theorem spec_RankDescending.mono_l : ∀ k, (∀ y0 y1 y2, LeO (spec_RankDescending.j0 k y0 y1 y2) (spec_RankDescending.j0 (k + 1) y0 y1 y2)) ∧ (∀ y0 y1 y2 y3 y4, LeO (spec_RankDescending.l0 k y0 y1 y2 y3 y4) (spec_RankDescending.l0 (k + 1) y0 y1 y2 y3 y4))
  | 0 => ⟨fun _ _ _ r h => by simp [spec_RankDescending.j0] at h, fun _ _ _ _ _ r h => by simp [spec_RankDescending.l0] at h⟩
  | k + 1 => by
    obtain ⟨ih0, ih1⟩ := spec_RankDescending.mono_l k
    refine ⟨?_, ?_⟩
    · intro y0 y1 y2
      unfold spec_RankDescending.j0
      repeat' first
      | (with_reducible exact ih0 _ _ _)
      | (with_reducible exact ih1 _ _ _ _ _)
      | (with_reducible exact spec_dpAll.mono _ _ _)
      | (with_reducible exact spec_dpGood.mono _ _ _)
      | (with_reducible exact spec_weSame.mono _ _ _)
      | (with_reducible exact LeO.refl _)
      | (with_reducible exact LeO.none _)
      | (with_reducible refine LeO.ite ?_ ?_)
      | (with_reducible refine LeO.bind ?_ (fun _ => ?_))
      | exact ih0 _ _ _
      | exact ih1 _ _ _ _ _
      | exact spec_dpAll.mono _ _ _
      | exact spec_dpGood.mono _ _ _
      | exact spec_weSame.mono _ _ _
      | exact LeO.none _
      | refine LeO.ite ?_ ?_
      | refine LeO.bind ?_ (fun _ => ?_)
    · intro y0 y1 y2 y3 y4
      unfold spec_RankDescending.l0
      repeat' first
      | (with_reducible exact ih0 _ _ _)
      | (with_reducible exact ih1 _ _ _ _ _)
      | (with_reducible exact spec_dpAll.mono _ _ _)
      | (with_reducible exact spec_dpGood.mono _ _ _)
      | (with_reducible exact spec_weSame.mono _ _ _)
      | (with_reducible exact LeO.refl _)
      | (with_reducible exact LeO.none _)
      | (with_reducible refine LeO.ite ?_ ?_)
      | (with_reducible refine LeO.bind ?_ (fun _ => ?_))
      | exact ih0 _ _ _
      | exact ih1 _ _ _ _ _
      | exact spec_dpAll.mono _ _ _
      | exact spec_dpGood.mono _ _ _
      | exact spec_weSame.mono _ _ _
      | exact LeO.none _
      | refine LeO.ite ?_ ?_
      | refine LeO.bind ?_ (fun _ => ?_)
theorem spec_RankDescending.mono : ∀ a0 a1 k, LeO (spec_RankDescending.f k a0 a1) (spec_RankDescending.f (k + 1) a0 a1) := by
  intro a0 a1 k
  obtain ⟨ih0, ih1⟩ := spec_RankDescending.mono_l k
  unfold spec_RankDescending.f
  repeat' first
      | (with_reducible exact ih0 _ _ _)
      | (with_reducible exact ih1 _ _ _ _ _)
      | (with_reducible exact spec_dpAll.mono _ _ _)
      | (with_reducible exact spec_dpGood.mono _ _ _)
      | (with_reducible exact spec_weSame.mono _ _ _)
      | (with_reducible exact LeO.refl _)
      | (with_reducible exact LeO.none _)
      | (with_reducible refine LeO.ite ?_ ?_)
      | (with_reducible refine LeO.bind ?_ (fun _ => ?_))
      | exact ih0 _ _ _
      | exact ih1 _ _ _ _ _
      | exact spec_dpAll.mono _ _ _
      | exact spec_dpGood.mono _ _ _
      | exact spec_weSame.mono _ _ _
      | exact LeO.none _
      | refine LeO.ite ?_ ?_
      | refine LeO.bind ?_ (fun _ => ?_)
set_option maxHeartbeats 8000000 in
set_option maxRecDepth 100000 in
theorem spec_RankDescending.calls (k : Nat) (A0 : Option Addr) (c0 : Nat) (l0 : List (List Int)) (a1 : Int) (r1 : Int) (r2 : Bool) (w : World) (hr0 : Kd.C (Kd.slice 3 (Kd.int .i64)) w A0 l0.length l0) (hc0 : l0.length ≤ c0) (h : spec_RankDescending.f k l0 a1 = some (r1, r2)) :
    Calls Try.prog 54 #[.slice A0 l0.length c0, .int .i64 a1] w fun e w' => e = .returned (.tuple #[.int .i64 r1, .bool r2]) ∧ Below w.heap.size w w' := by
  have HR0 := Aside0.mk hr0
  have HC0 := Aside0.mk hc0
  clear hr0 hc0
  have HB := Aside0.mk (Below.refl w.heap.size w)
  have H : ((spec_dpSmall.f a1).bind fun t479 => (if t479 = true then ((spec_dpGood.f k l0 a1).bind fun t480 => (spec_RankDescending.j0 k l0 a1 (!t480))) else (spec_RankDescending.j0 k l0 a1 true))) = some (r1, r2) := h
  clear h
  have HC3 := Aside0.mk H
  clear H
  go_enter Try.func54, Try.ntmps54
  go_upto_region 1 with (fail)
  go_cut [17] (fun v17 wc => ∃ (kq : Nat) (x17_2 : Bool), v17 = .bool x17_2 ∧ Aside0 (spec_RankDescending.j0 kq l0 a1 x17_2 = some (r1, r2)) ∧ Aside0 (kq ≤ k) ∧ Aside0 (Below w.heap.size w wc))
  case first =>
    have H := HC3.out
    clear HC3
    replace H := Option.bind_eq_some_iff.mp H
    obtain ⟨t479, A40, H⟩ := H
    replace H : (if t479 = true then ((spec_dpGood.f k l0 a1).bind fun t480 => (spec_RankDescending.j0 k l0 a1 (!t480))) else (spec_RankDescending.j0 k l0 a1 true)) = some (r1, r2) := H
    have A4 := Aside0.mk A40
    clear A40
    by_cases c5 : t479 = true
    · subst c5
      have H1 : ((spec_dpGood.f k l0 a1).bind fun t480 => (spec_RankDescending.j0 k l0 a1 (!t480))) = some (r1, r2) := by rw [if_pos rfl] at H; exact H
      clear H
      have H := H1
      clear H1
      replace H := Option.bind_eq_some_iff.mp H
      obtain ⟨t480, A60, H⟩ := H
      replace H : (spec_RankDescending.j0 k l0 a1 (!t480)) = some (r1, r2) := H
      have A6 := Aside0.mk A60
      clear A60
      have H' := Aside0.mk H
      clear H
      go_wp2_with (first | ((with_reducible refine gate_callee (f := 84) rfl ?_); refine goesL_ (some 10) rfl rfl Try.func84 (by kernel_rfl) rfl #[.int .i64 a1] rfl (by (try simp only [List.map_toArray, List.map_cons, List.map_nil]); first | done | rfl | (simp only [List.length_drop, List.length_take]; rfl)) ?_; (with_reducible refine (spec_dpSmall.calls a1 true _ A4.out).mono ?_); rintro e w' ⟨rfl, ⟨nd, rfl⟩⟩; refine ⟨_, rfl, ?_⟩) | (go_at_call 103; (with_reducible refine (spec_dpGood.calls k _ _ l0 a1 t480 _ ?side1 ?side2 A6.out).mono ?_); (case side1 => repeat (first | exact (Kd.C_below HR0.out (by repeat (first | (with_reducible first | exact HB.out | apply below_alloc | apply pw_below_drewN | apply below_drew1) | exact HB.out))) | (with_reducible refine Kd.C_alloc ?_ _) | (with_reducible refine Kd.C_drewN ?_ _) | (with_reducible refine Kd.C_drew ?_))); (case side2 => exact HC0.out); rintro e w' ⟨rfl, ⟨nd, rfl⟩⟩))
      go_meet
      case rel => exact ⟨_, (!t480), (by first | rfl | (simp; done) | (simp [*]; done)), H', ⟨by first | omega | exact Nat.le_refl _⟩, ⟨by repeat (first | (with_reducible first | exact HB.out | apply below_alloc | apply pw_below_drewN | apply below_drew1) | exact HB.out)⟩⟩
    · replace c5 := Bool.eq_false_iff.mpr c5
      subst c5
      have H1 : (spec_RankDescending.j0 k l0 a1 true) = some (r1, r2) := by rw [if_neg (show ¬ (false = true) by decide)] at H; exact H
      clear H
      have H := H1
      clear H1
      have H' := Aside0.mk H
      clear H
      go_wp2_with (first | ((with_reducible refine gate_callee (f := 84) rfl ?_); refine goesL_ (some 10) rfl rfl Try.func84 (by kernel_rfl) rfl #[.int .i64 a1] rfl (by (try simp only [List.map_toArray, List.map_cons, List.map_nil]); first | done | rfl | (simp only [List.length_drop, List.length_take]; rfl)) ?_; (with_reducible refine (spec_dpSmall.calls a1 false _ A4.out).mono ?_); rintro e w' ⟨rfl, ⟨nd, rfl⟩⟩; refine ⟨_, rfl, ?_⟩))
      go_meet
      case rel => exact ⟨_, (true), (by first | rfl | (simp; done) | (simp [*]; done)), H', ⟨by first | omega | exact Nat.le_refl _⟩, ⟨by repeat (first | (with_reducible first | exact HB.out | apply below_alloc | apply pw_below_drewN | apply below_drew1) | exact HB.out)⟩⟩
  case rest =>
    clear HC3
    try clear p2
    try clear c5
    obtain ⟨kq, x17_2, rfl, HA, HJ2, HB⟩ := hcut
    cases kq with
    | zero => exact absurd HA.out (by simp [spec_RankDescending.j0])
    | succ kj2 =>
      have H := HA.out
      clear HA
      simp only [spec_RankDescending.j0] at H
      by_cases c7 : x17_2 = true
      · subst c7
        have H1 : (some (0, false)) = some (r1, r2) := by rw [if_pos rfl] at H; exact H
        clear H
        have H := H1
        clear H1
        simp only [Option.some.injEq, Prod.mk.injEq] at H
        obtain ⟨rfl, rfl⟩ := H
        go_wp2
        go_ret2
        exact ⟨by first | rfl | (simp [errW_none, errW_some] <;> rfl) | (simp [*, errW_none, errW_some] <;> rfl), by repeat (first | (with_reducible first | exact HB.out | apply below_alloc | apply pw_below_drewN | apply below_drew1) | exact HB.out)⟩
      · replace c7 := Bool.eq_false_iff.mpr c7
        subst c7
        have H1 : ((spec_dpAll.f kj2 ([] : List (List Int)) a1).bind fun t481 => (spec_RankDescending.l0 kj2 l0 0 t481 (t481.length : Int) 0)) = some (r1, r2) := by rw [if_neg (show ¬ (false = true) by decide)] at H; exact H
        clear H
        have H := H1
        clear H1
        replace H := Option.bind_eq_some_iff.mp H
        obtain ⟨t481, A80, H⟩ := H
        replace H : (spec_RankDescending.l0 kj2 l0 0 t481 (t481.length : Int) 0) = some (r1, r2) := H
        have A8 := Aside0.mk A80
        clear A80
        have H' := Aside0.mk H
        clear H
        go_wp2_with (first | ((with_reducible refine gate_callee (f := 85) rfl ?_); refine goesL_ (some 19) rfl rfl Try.func85 (by kernel_rfl) rfl #[.slice none 0 0, .int .i64 a1] rfl (by (try simp only [List.map_toArray, List.map_cons, List.map_nil]); first | done | rfl | (simp only [List.length_drop, List.length_take]; rfl)) ?_; (refine (spec_dpAll.calls kj2 (fun k_ => False) _ _ ([] : List (List Int)) a1 t481 _ ?side1 A8.out).mono ?_); (case side1 => exact Kd.V_nil _ _ _ _ _); rintro e w9 ⟨v482, rfl, ho0, hb⟩; refine ⟨_, rfl, ?_⟩; have n0_ := Aside0.mk (Kd.N_lower (Kd.N_mono (ok' := fun k_ => True) ho0 (fun k_ hk_ => trivial)) (below_size (by repeat (first | (with_reducible first | exact HB.out | apply below_alloc | apply pw_below_drewN | apply below_drew1) | exact HB.out)))); have n1_ := Aside0.mk (below_step (by repeat (first | (with_reducible first | exact HB.out | apply below_alloc | apply pw_below_drewN | apply below_drew1) | exact HB.out)) hb); clear HB; have HO483 := n0_; have HB := n1_; clear n0_ n1_; (try clear hb); (try clear hb2); (try clear hk); (try clear hi); (try clear ho0); obtain ⟨Ao10, co10, eo10⟩ := Kd.N_slice HO483.out; subst eo10))
        go_loopg [6, 21] kj2 (fun kq v6 v21 w' => ∃ (x6_2 : Int) (x21_2 : Int), v6 = .int .i64 x6_2 ∧ v21 = .int .i64 x21_2 ∧ Aside0 (spec_RankDescending.l0 kq l0 x6_2 t481 (t481.length : Int) x21_2 = some (r1, r2)) ∧ Aside0 (kq ≤ kj2) ∧ Aside0 (Kd.N (Kd.slice 22 (Kd.slice 3 (Kd.int .i64))) 36 w' w.heap.size (fun _ => True) (.slice Ao10 t481.length co10) t481) ∧ Aside0 (Below w.heap.size w w'))
        case atStart => exact ⟨(0), (0), (by first | rfl | (simp; done) | (simp [*]; done)), (by first | rfl | (simp; done) | (simp [*]; done)), H', ⟨Nat.le_refl _⟩, ⟨by (with_reducible repeat (first | apply Kd.N_alloc | apply Kd.N_drewN | apply Kd.N_drew)); exact HO483.out⟩, ⟨by repeat (first | (with_reducible first | exact HB.out | apply below_alloc | apply pw_below_drewN | apply below_drew1) | exact HB.out)⟩⟩
        case round =>
          clear H'
          try clear p2
          try clear c5
          try clear c7
          try clear c8
          try clear p2
          obtain ⟨x6_2, x21_2, rfl, rfl, HA, HK2, HO_19, HB⟩ := hrel
          cases gk with
          | zero => exact absurd HA.out (by simp [spec_RankDescending.l0])
          | succ k2 =>
            have H := HA.out
            clear HA
            simp only [spec_RankDescending.l0] at H
            by_cases c11 : x21_2 < (t481.length : Int)
            · rw [if_pos c11] at H
              have c11b0 : decide (x21_2 < (t481.length : Int)) = true := decide_eq_true c11
              clear c11
              by_cases c12 : 0 ≤ x21_2
              · rw [if_pos c12] at H
                have c12b0 : decide (0 ≤ x21_2) = true := decide_eq_true c12
                clear c12
                by_cases c13 : x21_2 < (t481.length : Int)
                · rw [if_pos c13] at H
                  have c13b0 : decide (x21_2 < (t481.length : Int)) = true := decide_eq_true c13
                  clear c13
                  replace H := Option.bind_eq_some_iff.mp H
                  obtain ⟨t485, A140, H⟩ := H
                  replace H : (if t485 = true then (spec_RankDescending.l0 k2 l0 x21_2 t481 (t481.length : Int) (wrap64 (x21_2 + 1))) else (spec_RankDescending.l0 k2 l0 x6_2 t481 (t481.length : Int) (wrap64 (x21_2 + 1)))) = some (r1, r2) := H
                  have A14 := Aside0.mk A140
                  clear A140
                  by_cases c15 : t485 = true
                  · subst c15
                    have H1 : (spec_RankDescending.l0 k2 l0 x21_2 t481 (t481.length : Int) (wrap64 (x21_2 + 1))) = some (r1, r2) := by rw [if_pos rfl] at H; exact H
                    clear H
                    have H := H1
                    clear H1
                    have H' := Aside0.mk H
                    clear H
                    have p484 : 0 ≤ (x21_2 : Int) := of_decide_eq_true (by first | (with_reducible assumption) | assumption)
                    have q484 : x21_2 < (t481.length : Int) := of_decide_eq_true (by first | (with_reducible assumption) | assumption)
                    obtain ⟨ad484, A484_0, c484_0, e484, hx484_0, hl484_0, hi484_0⟩ := at_L2 (Kd.N_reads' HO_19.out).2.2 x21_2 p484 q484
                    cases e484
                    obtain ⟨ce484, hce484, hMe484, hcc484⟩ := Kd.N_get HO_19.out [] x21_2 p484 (by first | exact q484 | exact of_decide_eq_true (by first | (with_reducible assumption) | assumption) | (have e_ := (Kd.N_reads' HO_19.out).1; omega))
                    obtain ⟨ua484_0, uc484_0, rfl, ul484_0, ge484_0⟩ := Kd.FK_slice_open hMe484
                    have hv484_0 := hcc484 0 _ rfl
                    rw [Nat.add_zero, show ((Kd.slice 22 (Kd.slice 3 (Kd.int .i64)))).sz = 1 from rfl, Nat.mul_one] at hv484_0
                    replace hv484_0 := Option.some.inj (hv484_0.symm.trans hx484_0)
                    injection hv484_0 with hva_ hvn_ hvc_
                    rw [hva_] at ge484_0
                    rw [hvc_] at ul484_0
                    have HL484_0 := Aside0.mk (show Kd.V (Kd.slice 3 (Kd.int .i64)) 22 _ w.heap.size _ _ (rd_L2 t481 x21_2) from Kd.V_mk ul484_0 ge484_0)
                    clear hva_ hvn_ hvc_ ge484_0 ul484_0
                    clear hcc484 hce484
                    have HR484_0 := Aside0.mk hi484_0
                    have HC484_0 := Aside0.mk hl484_0
                    clear hi484_0 hl484_0
                    replace p484 := eq_true p484
                    replace q484 := eq_true q484
                    go_wp2_with (first | ((with_reducible refine gate_callee (f := 104) rfl ?_); refine goesL_ (some 28) rfl rfl Try.func104 (by kernel_rfl) rfl #[.slice A484_0 (rd_L2 t481 x21_2).length c484_0, .slice A0 l0.length c0] rfl (by (try simp only [List.map_toArray, List.map_cons, List.map_nil]); first | done | rfl | (simp only [List.length_drop, List.length_take]; rfl)) ?_; (with_reducible refine (spec_weSame.calls k2 _ _ (rd_L2 t481 x21_2) _ _ l0 true _ ?side1 ?side2 ?side3 ?side4 A14.out).mono ?_); (case side1 => repeat (first | exact (by repeat (first | (with_reducible exact HR484_0.out) | (with_reducible refine Kd.C_alloc ?_ _) | (with_reducible refine Kd.C_drewN ?_ _) | (with_reducible refine Kd.C_drew ?_) | exact HR484_0.out)) | (with_reducible refine Kd.C_alloc ?_ _) | (with_reducible refine Kd.C_drewN ?_ _) | (with_reducible refine Kd.C_drew ?_))); (case side2 => exact HC484_0.out); (case side3 => repeat (first | exact (Kd.C_below HR0.out HB.out) | (with_reducible refine Kd.C_alloc ?_ _) | (with_reducible refine Kd.C_drewN ?_ _) | (with_reducible refine Kd.C_drew ?_))); (case side4 => exact HC0.out); rintro e w' ⟨rfl, ⟨nd, rfl⟩⟩; refine ⟨_, rfl, ?_⟩))
                    go_roundg k2
                    case measure => have := HJ2.out; have := HK2.out; omega
                    case rel => exact ⟨(x21_2), (wrap64 (x21_2 + 1)), (by first | rfl | (simp; done) | (simp [*]; done)), (by first | rfl | (simp; done) | (simp [*]; done)), H', ⟨by have := HJ2.out; have := HK2.out; omega⟩, ⟨by (with_reducible repeat (first | apply Kd.N_alloc | apply Kd.N_drewN | apply Kd.N_drew)); exact HO_19.out⟩, ⟨by repeat (first | (with_reducible first | exact HB.out | apply below_alloc | apply pw_below_drewN | apply below_drew1) | exact HB.out)⟩⟩
                  · replace c15 := Bool.eq_false_iff.mpr c15
                    subst c15
                    have H1 : (spec_RankDescending.l0 k2 l0 x6_2 t481 (t481.length : Int) (wrap64 (x21_2 + 1))) = some (r1, r2) := by rw [if_neg (show ¬ (false = true) by decide)] at H; exact H
                    clear H
                    have H := H1
                    clear H1
                    have H' := Aside0.mk H
                    clear H
                    have p484 : 0 ≤ (x21_2 : Int) := of_decide_eq_true (by first | (with_reducible assumption) | assumption)
                    have q484 : x21_2 < (t481.length : Int) := of_decide_eq_true (by first | (with_reducible assumption) | assumption)
                    obtain ⟨ad484, A484_0, c484_0, e484, hx484_0, hl484_0, hi484_0⟩ := at_L2 (Kd.N_reads' HO_19.out).2.2 x21_2 p484 q484
                    cases e484
                    obtain ⟨ce484, hce484, hMe484, hcc484⟩ := Kd.N_get HO_19.out [] x21_2 p484 (by first | exact q484 | exact of_decide_eq_true (by first | (with_reducible assumption) | assumption) | (have e_ := (Kd.N_reads' HO_19.out).1; omega))
                    obtain ⟨ua484_0, uc484_0, rfl, ul484_0, ge484_0⟩ := Kd.FK_slice_open hMe484
                    have hv484_0 := hcc484 0 _ rfl
                    rw [Nat.add_zero, show ((Kd.slice 22 (Kd.slice 3 (Kd.int .i64)))).sz = 1 from rfl, Nat.mul_one] at hv484_0
                    replace hv484_0 := Option.some.inj (hv484_0.symm.trans hx484_0)
                    injection hv484_0 with hva_ hvn_ hvc_
                    rw [hva_] at ge484_0
                    rw [hvc_] at ul484_0
                    have HL484_0 := Aside0.mk (show Kd.V (Kd.slice 3 (Kd.int .i64)) 22 _ w.heap.size _ _ (rd_L2 t481 x21_2) from Kd.V_mk ul484_0 ge484_0)
                    clear hva_ hvn_ hvc_ ge484_0 ul484_0
                    clear hcc484 hce484
                    have HR484_0 := Aside0.mk hi484_0
                    have HC484_0 := Aside0.mk hl484_0
                    clear hi484_0 hl484_0
                    replace p484 := eq_true p484
                    replace q484 := eq_true q484
                    go_wp2_with (first | ((with_reducible refine gate_callee (f := 104) rfl ?_); refine goesL_ (some 28) rfl rfl Try.func104 (by kernel_rfl) rfl #[.slice A484_0 (rd_L2 t481 x21_2).length c484_0, .slice A0 l0.length c0] rfl (by (try simp only [List.map_toArray, List.map_cons, List.map_nil]); first | done | rfl | (simp only [List.length_drop, List.length_take]; rfl)) ?_; (with_reducible refine (spec_weSame.calls k2 _ _ (rd_L2 t481 x21_2) _ _ l0 false _ ?side1 ?side2 ?side3 ?side4 A14.out).mono ?_); (case side1 => repeat (first | exact (by repeat (first | (with_reducible exact HR484_0.out) | (with_reducible refine Kd.C_alloc ?_ _) | (with_reducible refine Kd.C_drewN ?_ _) | (with_reducible refine Kd.C_drew ?_) | exact HR484_0.out)) | (with_reducible refine Kd.C_alloc ?_ _) | (with_reducible refine Kd.C_drewN ?_ _) | (with_reducible refine Kd.C_drew ?_))); (case side2 => exact HC484_0.out); (case side3 => repeat (first | exact (Kd.C_below HR0.out HB.out) | (with_reducible refine Kd.C_alloc ?_ _) | (with_reducible refine Kd.C_drewN ?_ _) | (with_reducible refine Kd.C_drew ?_))); (case side4 => exact HC0.out); rintro e w' ⟨rfl, ⟨nd, rfl⟩⟩; refine ⟨_, rfl, ?_⟩))
                    go_roundg k2
                    case measure => have := HJ2.out; have := HK2.out; omega
                    case rel => exact ⟨(x6_2), (wrap64 (x21_2 + 1)), (by first | rfl | (simp; done) | (simp [*]; done)), (by first | rfl | (simp; done) | (simp [*]; done)), H', ⟨by have := HJ2.out; have := HK2.out; omega⟩, ⟨by (with_reducible repeat (first | apply Kd.N_alloc | apply Kd.N_drewN | apply Kd.N_drew)); exact HO_19.out⟩, ⟨by repeat (first | (with_reducible first | exact HB.out | apply below_alloc | apply pw_below_drewN | apply below_drew1) | exact HB.out)⟩⟩
                · rw [if_neg c13] at H
                  exact absurd H (by simp)
              · rw [if_neg c12] at H
                exact absurd H (by simp)
            · rw [if_neg c11] at H
              have c11b0 : decide (x21_2 < (t481.length : Int)) = false := decide_eq_false c11
              clear c11
              simp only [Option.some.injEq, Prod.mk.injEq] at H
              obtain ⟨rfl, rfl⟩ := H
              go_wp2
              go_ret2
              exact ⟨by first | rfl | (simp [errW_none, errW_some] <;> rfl) | (simp [*, errW_none, errW_some] <;> rfl), by repeat (first | (with_reducible first | exact HB.out | apply below_alloc | apply pw_below_drewN | apply below_drew1) | exact HB.out)⟩

end Go.Proofs.Ytdcdkckpmkfjdaa.P

namespace Go.Proofs.Ytdcdkckpmkfjdaa
open Go.RowKit Go.Proofs.YtdcdkckpmkfjdaaW.PrintWords Go.Proofs.YtdcdkckpmkfjdaaW.PrintLast Go.Proofs.YtdcdkckpmkfjdaaW.PrintMore
set_option linter.unusedVariables false
set_option linter.unusedSimpArgs false

def cmpI (x y : Int) : Int := if x < y then -1 else if y < x then 1 else 0
/-- The order of two lists, out of that of their elements. -/
def cmpL {α : Type} (cf : α → α → Int) : List α → List α → Int
  | [], [] => 0
  | [], _ :: _ => -1
  | _ :: _, [] => 1
  | x :: xs, y :: ys => if cf x y = 0 then cmpL cf xs ys else cf x y
theorem cmpL_step {α : Type} (cf : α → α → Int) (a b : List α) (i : Nat) (ha : i < a.length) (hb : i < b.length) : cmpL cf (a.drop i) (b.drop i) = if cf a[i] b[i] = 0 then cmpL cf (a.drop (i + 1)) (b.drop (i + 1)) else cf a[i] b[i] := by
  rw [List.drop_eq_getElem_cons ha, List.drop_eq_getElem_cons hb, cmpL]
theorem cmpL_gt {α : Type} (cf : α → α → Int) (a b : List α) (i : Nat) (ha : i < a.length) (hb : b.length ≤ i) : cmpL cf (a.drop i) (b.drop i) = 1 := by
  rw [List.drop_eq_getElem_cons ha, List.drop_eq_nil_of_le hb, cmpL]
theorem cmpL_lt {α : Type} (cf : α → α → Int) (a b : List α) (i : Nat) (ha : a.length ≤ i) (hb : i < b.length) : cmpL cf (a.drop i) (b.drop i) = -1 := by
  rw [List.drop_eq_nil_of_le ha, List.drop_eq_getElem_cons hb, cmpL]
theorem cmpL_eq {α : Type} (cf : α → α → Int) (a b : List α) (i : Nat) (ha : a.length ≤ i) (hb : b.length ≤ i) : cmpL cf (a.drop i) (b.drop i) = 0 := by
  rw [List.drop_eq_nil_of_le ha, List.drop_eq_nil_of_le hb, cmpL]
theorem cmpL_zero {α : Type} (cf : α → α → Int) (h : ∀ x y, cf x y = 0 ↔ x = y) : ∀ (a b : List α), cmpL cf a b = 0 ↔ a = b
  | [], [] => by simp [cmpL]
  | [], _ :: _ => by simp [cmpL]
  | _ :: _, [] => by simp [cmpL]
  | x :: xs, y :: ys => by
    rw [cmpL]
    by_cases e : cf x y = 0
    · rw [if_pos e, cmpL_zero cf h xs ys, (h x y).1 e]; simp
    · rw [if_neg e]
      constructor
      · intro h2; exact absurd h2 e
      · intro h2; injection h2 with h3 _; exact absurd ((h x y).2 h3) e
theorem cmpI_zero (x y : Int) : cmpI x y = 0 ↔ x = y := by
  unfold cmpI
  split
  · constructor
    · intro h; cases h
    · intro h; omega
  · split
    · constructor
      · intro h; cases h
      · intro h; omega
    · constructor
      · intro _; omega
      · intro _; rfl

theorem cmp_isNaN.calls' (x : Int) (w : World) : Calls Try.prog 153 #[.int .i64 x] w fun e w' => e = .returned (.bool false) ∧ w = w' := by
  have h : (x != x) = false := by simp
  go_enter Try.func153, Try.ntmps153
  go_wp2
  go_ret
  exact ⟨by first | rfl | simp, rfl⟩
theorem cmp_Compare.calls' (x y : Int) (w : World) : Calls Try.prog 150 #[.int .i64 x, .int .i64 y] w fun e w' => e = .returned (.int .i64 (cmpI x y)) ∧ w = w' := by
  have HC := Aside0.mk (show cmpI x y = if x < y then -1 else if y < x then 1 else 0 from rfl)
  by_cases h1 : x < y
  · have HE := Aside0.mk (show cmpI x y = -1 by rw [HC.out, if_pos h1])
    clear HC
    go_enter Try.func150, Try.ntmps150
    go_wp2_with (go_at_call 153; refine (cmp_isNaN.calls' _ _).mono ?_; rintro e w1 ⟨rfl, rfl⟩)
    go_ret
    exact ⟨by rw [HE.out]; rfl, rfl⟩
  · by_cases h2 : y < x
    · have HE := Aside0.mk (show cmpI x y = 1 by rw [HC.out, if_neg h1, if_pos h2])
      have h3 : x > y := h2
      clear HC
      go_enter Try.func150, Try.ntmps150
      go_wp2_with (go_at_call 153; refine (cmp_isNaN.calls' _ _).mono ?_; rintro e w1 ⟨rfl, rfl⟩)
      go_ret
      exact ⟨by rw [HE.out]; rfl, rfl⟩
    · have HE := Aside0.mk (show cmpI x y = 0 by rw [HC.out, if_neg h1, if_neg h2])
      have h3 : ¬ x > y := h2
      clear HC
      go_enter Try.func150, Try.ntmps150
      go_wp2_with (go_at_call 153; refine (cmp_isNaN.calls' _ _).mono ?_; rintro e w1 ⟨rfl, rfl⟩)
      go_ret
      exact ⟨by rw [HE.out]; rfl, rfl⟩
set_option maxHeartbeats 2000000 in
theorem slices_Compare.calls' (A0 : Option Addr) (c0 : Nat) (a : List Int) (A1 : Option Addr) (c1 : Nat) (b : List Int) (w : World) (ha : Kd.C (Kd.int .i64) w A0 a.length a) (hb : Kd.C (Kd.int .i64) w A1 b.length b) :
    Calls Try.prog 141 #[.slice A0 a.length c0, .slice A1 b.length c1] w fun e w' => e = .returned (.int .i64 (cmpL cmpI a b)) ∧ w = w' := by
  have hma := ha.2.1
  have hmb := hb.2.1
  have HA := Aside0.mk ha
  have HB := Aside0.mk hb
  clear ha hb
  have HF := Aside0.mk (show cmpL cmpI a b = cmpL cmpI (a.drop 0) (b.drop 0) from rfl)
  obtain ⟨fin, hfin⟩ : ∃ z, z = cmpL cmpI a b := ⟨_, rfl⟩
  rw [← hfin] at HF ⊢
  clear hfin
  go_enter Try.func141, Try.ntmps141
  go_wp2
  go_loopg [5, 6, 7, 8, 11] a.length (fun gg s5 s6 s7 s8 s11 wr => ∃ i : Nat, i ≤ a.length ∧ i ≤ b.length ∧ a.length - i ≤ gg ∧ s11 = .int .i64 i ∧ Aside0 (fin = cmpL cmpI (a.drop i) (b.drop i)) ∧ w = wr)
  case atStart => exact ⟨0, Nat.zero_le _, Nat.zero_le _, Nat.le_refl _, rfl, HF, rfl⟩
  case round =>
    clear HF
    obtain ⟨i, hi, hi2, hg, rfl, HF, rfl⟩ := hrel
    by_cases hlt : i < a.length
    · have hz : (i : Int) < (a.length : Int) := by omega
      obtain ⟨ad, e0, hx⟩ := Kd.at_int HA.out i (by omega) hz
      cases e0
      by_cases hlb : i < b.length
      · have hzb : ¬ (i : Int) ≥ (b.length : Int) := by omega
        have hzb2 : (i : Int) < (b.length : Int) := by omega
        obtain ⟨ad2, e1, hy⟩ := Kd.at_int HB.out i (by omega) (by omega)
        cases e1
        simp only [Int.toNat_natCast] at hx hy
        have hst := cmpL_step cmpI a b i hlt hlb
        have ea : a[i] = rd a i := by simp [rd, List.getD_eq_getElem?_getD, hlt]
        have eb : b[i] = rd b i := by simp [rd, List.getD_eq_getElem?_getD, hlb]
        rw [ea, eb] at hst
        obtain ⟨x, hxx⟩ : ∃ z, z = rd a i := ⟨_, rfl⟩
        obtain ⟨y, hyy⟩ : ∃ z, z = rd b i := ⟨_, rfl⟩
        rw [← hxx] at hst hx
        rw [← hyy] at hst hy
        clear hxx hyy ea eb
        have HST := Aside0.mk hst
        clear hst
        have hcm := fun W => cmp_Compare.calls' x y W
        obtain ⟨c, hc⟩ : ∃ z, z = cmpI x y := ⟨_, rfl⟩
        rw [← hc] at HST hcm
        clear hc
        by_cases hc0 : c = 0
        · have HE := Aside0.mk (show fin = cmpL cmpI (a.drop (i + 1)) (b.drop (i + 1)) by rw [HF.out, HST.out, if_pos hc0])
          subst hc0
          clear HST
          go_wp2_with (go_at_call 150; refine (hcm _).mono ?_; rintro e w1 ⟨rfl, rfl⟩)
          go_roundg (a.length - (i + 1))
          case measure => omega
          case rel => exact ⟨i + 1, by omega, by omega, by omega, by go_num, HE, rfl⟩
        · have HE := Aside0.mk (show fin = c by rw [HF.out, HST.out, if_neg hc0])
          have hcn : (c != 0) = true := by rw [bne_iff_ne]; exact hc0
          clear HST
          go_wp2_with (go_at_call 150; refine (hcm _).mono ?_; rintro e w1 ⟨rfl, rfl⟩)
          go_ret
          exact ⟨by rw [HE.out]; rfl, rfl⟩
      · have hzb : (i : Int) ≥ (b.length : Int) := by omega
        have HE := Aside0.mk (show fin = 1 by rw [HF.out, cmpL_gt cmpI a b i hlt (by omega)])
        simp only [Int.toNat_natCast] at hx
        go_wp2
        go_ret
        exact ⟨by rw [HE.out]; rfl, rfl⟩
    · have hz : ¬ (i : Int) < (a.length : Int) := by omega
      by_cases hlb : a.length < b.length
      · have hzb : (a.length : Int) < (b.length : Int) := by omega
        have HE := Aside0.mk (show fin = -1 by rw [HF.out, cmpL_lt cmpI a b i (by omega) (by omega)])
        go_wp2
        go_ret
        exact ⟨by rw [HE.out]; rfl, rfl⟩
      · have hzb : ¬ (a.length : Int) < (b.length : Int) := by omega
        have HE := Aside0.mk (show fin = 0 by rw [HF.out, cmpL_eq cmpI a b i (by omega) (by omega)])
        go_wp2
        go_ret
        exact ⟨by rw [HE.out]; rfl, rfl⟩

set_option maxHeartbeats 4000000 in
theorem slices_CompareFunc_rows.calls (g : Nat) (lb : Array Value) (cf : List Int → List Int → Int) (A0 : Option Addr) (c0 : Nat) (a : List (List Int)) (A1 : Option Addr) (c1 : Nat) (b : List (List Int)) (w : World)
    (eg : ∀ args w, (callFunc g args).run Try.prog w = .ok (.enter g args) w)
    (hf : ∀ (x y : List Int) (A : Option Addr) (c : Nat) (A' : Option Addr) (c' : Nat) (W : World), Kd.C (Kd.int .i64) W A x.length x → Kd.C (Kd.int .i64) W A' y.length y → Gives Try.prog g (#[.slice A x.length c, .slice A' y.length c'] ++ lb) W (.int .i64 (cf x y)))
    (ha : Kd.C (Kd.slice 3 (Kd.int .i64)) w A0 a.length a) (hb : Kd.C (Kd.slice 3 (Kd.int .i64)) w A1 b.length b) :
    Calls Try.prog 139 #[.slice A0 a.length c0, .slice A1 b.length c1, .func (.func g) #[] lb] w fun e w' => e = .returned (.int .i64 (cmpL cf a b)) ∧ Below w.heap.size w w' := by
  have hma := ha.2.1
  have hmb := hb.2.1
  have HA := Aside0.mk ha
  have HB := Aside0.mk hb
  have HFN := Aside0.mk hf
  clear ha hb hf
  have HF := Aside0.mk (show cmpL cf a b = cmpL cf (a.drop 0) (b.drop 0) from rfl)
  have HW := Aside0.mk (Below.refl w.heap.size w)
  obtain ⟨fin, hfin⟩ : ∃ z, z = cmpL cf a b := ⟨_, rfl⟩
  rw [← hfin] at HF ⊢
  clear hfin
  go_enter Try.func139, Try.ntmps139
  go_wp2
  go_loopg [7, 8, 9, 10, 13] a.length (fun gg s7 s8 s9 s10 s13 wr => ∃ i : Nat, i ≤ a.length ∧ i ≤ b.length ∧ a.length - i ≤ gg ∧ s13 = .int .i64 i ∧ Aside0 (fin = cmpL cf (a.drop i) (b.drop i)) ∧ Aside0 (Below w.heap.size w wr))
  case atStart => exact ⟨0, Nat.zero_le _, Nat.zero_le _, Nat.le_refl _, rfl, HF, HW⟩
  case round =>
    clear HF HW
    obtain ⟨i, hi, hi2, hg, rfl, HF, HW⟩ := hrel
    by_cases hlt : i < a.length
    · have hz : (i : Int) < (a.length : Int) := by omega
      obtain ⟨ad, Ax, cx, e0, hx, _, hrx⟩ := rowsAt HA.out i hlt
      cases e0
      replace hx := pw_cell_below HW.out hx
      by_cases hlb : i < b.length
      · have hzb : ¬ (i : Int) ≥ (b.length : Int) := by omega
        have hzb2 : (i : Int) < (b.length : Int) := by omega
        obtain ⟨ad2, Ay, cy, e1, hy, _, hry⟩ := rowsAt HB.out i hlb
        cases e1
        replace hy := pw_cell_below HW.out hy
        have hst := cmpL_step cf a b i hlt hlb
        rw [← getD_at a [] i hlt, ← getD_at b [] i hlb] at hst
        have hcm := HFN.out (a.getD i []) (b.getD i []) Ax cx Ay cy wr (Kd.C_below hrx HW.out) (Kd.C_below hry HW.out)
        obtain ⟨x, hxx⟩ : ∃ z, z = a.getD i [] := ⟨_, rfl⟩
        obtain ⟨y, hyy⟩ : ∃ z, z = b.getD i [] := ⟨_, rfl⟩
        rw [← hxx] at hst hx hcm
        rw [← hyy] at hst hy hcm
        clear hxx hyy hrx hry
        have HST := Aside0.mk hst
        clear hst
        obtain ⟨c, hc⟩ : ∃ z, z = cf x y := ⟨_, rfl⟩
        rw [← hc] at HST hcm
        clear hc
        by_cases hc0 : c = 0
        · have HE := Aside0.mk (show fin = cmpL cf (a.drop (i + 1)) (b.drop (i + 1)) by rw [HF.out, HST.out, if_pos hc0])
          subst hc0
          clear HST
          go_wp2_with (go_at_fn g; refine hcm.mono ?_; rintro e w1 ⟨rfl, hb⟩; have HW1 := Aside0.mk (below_step HW.out hb); clear hb)
          go_roundg (a.length - (i + 1))
          case measure => omega
          case rel => exact ⟨i + 1, by omega, by omega, by omega, by go_num, HE, HW1⟩
        · have HE := Aside0.mk (show fin = c by rw [HF.out, HST.out, if_neg hc0])
          have hcn : (c != 0) = true := by rw [bne_iff_ne]; exact hc0
          clear HST
          go_wp2_with (go_at_fn g; refine hcm.mono ?_; rintro e w1 ⟨rfl, hb⟩; have HW1 := Aside0.mk (below_step HW.out hb); clear hb)
          go_ret
          exact ⟨by rw [HE.out]; rfl, HW1.out⟩
      · have hzb : (i : Int) ≥ (b.length : Int) := by omega
        have HE := Aside0.mk (show fin = 1 by rw [HF.out, cmpL_gt cf a b i hlt (by omega)])
        go_wp2
        go_ret
        exact ⟨by rw [HE.out]; rfl, HW.out⟩
    · have hz : ¬ (i : Int) < (a.length : Int) := by omega
      by_cases hlb : a.length < b.length
      · have hzb : (a.length : Int) < (b.length : Int) := by omega
        have HE := Aside0.mk (show fin = -1 by rw [HF.out, cmpL_lt cf a b i (by omega) (by omega)])
        go_wp2
        go_ret
        exact ⟨by rw [HE.out]; rfl, HW.out⟩
      · have hzb : ¬ (a.length : Int) < (b.length : Int) := by omega
        have HE := Aside0.mk (show fin = 0 by rw [HF.out, cmpL_eq cf a b i (by omega) (by omega)])
        go_wp2
        go_ret
        exact ⟨by rw [HE.out]; rfl, HW.out⟩
/-- The order of two tables. -/
def cmpT (a b : List (List Int)) : Int := cmpL (cmpL cmpI) a b
theorem cmpT_zero (a b : List (List Int)) : cmpT a b = 0 ↔ a = b := cmpL_zero _ (cmpL_zero _ cmpI_zero) a b
theorem compareTables_1.calls (x y : List Int) (A : Option Addr) (c : Nat) (A' : Option Addr) (c' : Nat) (W : World) (hx : Kd.C (Kd.int .i64) W A x.length x) (hy : Kd.C (Kd.int .i64) W A' y.length y) :
    Gives Try.prog 140 #[.slice A x.length c, .slice A' y.length c'] W (.int .i64 (cmpL cmpI x y)) := by
  unfold Gives
  have hcm := slices_Compare.calls' A c x A' c' y W hx hy
  clear hx hy
  go_enter Try.func140, Try.ntmps140
  go_wp2_with (go_at_call 141; refine hcm.mono ?_; rintro e w1 ⟨rfl, rfl⟩)
  go_ret
  exact ⟨rfl, Below.refl _ _⟩
theorem impl_compareTables.calls' (A0 : Option Addr) (c0 : Nat) (a : List (List Int)) (A1 : Option Addr) (c1 : Nat) (b : List (List Int)) (w : World)
    (ha : Kd.C (Kd.slice 3 (Kd.int .i64)) w A0 a.length a) (hb : Kd.C (Kd.slice 3 (Kd.int .i64)) w A1 b.length b) :
    Calls Try.prog 108 #[.slice A0 a.length c0, .slice A1 b.length c1] w fun e w' => e = .returned (.int .i64 (cmpT a b)) ∧ Below w.heap.size w w' := by
  have hcm := slices_CompareFunc_rows.calls 140 #[] (cmpL cmpI) A0 c0 a A1 c1 b w (enters_of Try.func140 (by kernel_rfl) rfl) (fun x y A c A' c' W hx hy => compareTables_1.calls x y A c A' c' W hx hy) ha hb
  clear ha hb
  have HT := Aside0.mk (show cmpT a b = cmpL (cmpL cmpI) a b from rfl)
  obtain ⟨r, hr⟩ : ∃ z, z = cmpL (cmpL cmpI) a b := ⟨_, rfl⟩
  rw [← hr] at hcm HT
  clear hr
  go_enter Try.func108, Try.ntmps108
  go_wp2_with (go_at_call 139; refine hcm.mono ?_; rintro e w1 ⟨rfl, hb⟩)
  go_ret
  exact ⟨by rw [HT.out]; rfl, hb⟩
end Go.Proofs.Ytdcdkckpmkfjdaa

/- The program's RankDescending: what it gives. -/
namespace Go.Proofs.Ytdcdkckpmkfjdaa.L
open Go.RowKit Go.Proofs.Ytdcdkckpmkfjdaa Go.Proofs.Ytdcdkckpmkfjdaa.P Go.Proofs.YtdcdkckpmkfjdaaW.PrintWords Go.Proofs.YtdcdkckpmkfjdaaW.PrintLast Go.Proofs.YtdcdkckpmkfjdaaW.PrintMore
set_option linter.unusedVariables false
set_option linter.unusedSimpArgs false

theorem getD_atL {α : Type} (l : List α) (d : α) (i : Nat) (h : i < l.length) : l.getD i d = l[i] := by simp [List.getD_eq_getElem?_getD, h]
set_option maxHeartbeats 2000000 in
theorem slices_IndexFunc_tabs.calls (g : Nat) (lb : Array Value) (p : List (List Int) → Bool) (A0 : Option Addr) (c0 : Nat) (l0 : List (List (List Int))) (w : World)
    (eg : ∀ args w, (callFunc g args).run Try.prog w = .ok (.enter g args) w)
    (hp : ∀ (x : List (List Int)) (A : Option Addr) (c : Nat) (W : World), Below w.heap.size w W → Kd.C (Kd.slice 3 (Kd.int .i64)) W A x.length x → x.length ≤ c → Gives Try.prog g (#[.slice A x.length c] ++ lb) W (.bool (p x)))
    (hr0 : Kd.C (Kd.slice 22 (Kd.slice 3 (Kd.int .i64))) w A0 l0.length l0) (hc0 : l0.length ≤ c0) :
    Calls Try.prog 106 #[.slice A0 l0.length c0, .func (.func g) #[] lb] w fun e w' => e = .returned (.int .i64 (idxOf p l0)) ∧ Below w.heap.size w w' := by
  have hm := hr0.2.1
  have HR0 := Aside0.mk hr0
  have HP := Aside0.mk hp
  clear hr0 hc0 hp
  have hm1 : l0.length ≤ 9223372036854775807 := hm
  go_enter Try.func106, Try.ntmps106
  go_wp2
  go_loopg [5, 8] l0.length (fun gg _ s8 wr => ∃ kk : Nat, kk ≤ l0.length ∧ l0.length - kk ≤ gg ∧ s8 = .int .i64 kk ∧ Aside0 (Below w.heap.size w wr) ∧ Aside0 (∀ j (hj : j < l0.length), j < kk → p l0[j] = false))
  case atStart => exact ⟨0, Nat.zero_le _, by omega, rfl, ⟨Below.refl _ _⟩, ⟨fun j _ hj => absurd hj (Nat.not_lt_zero _)⟩⟩
  case round =>
    obtain ⟨kk, hkk, hg, rfl, HB, HN⟩ := hrel
    by_cases hlt : kk < l0.length
    · have hltz : (kk : Int) < (l0.length : Int) := by omega
      obtain ⟨ad, A1, c1, e0, hx, hc1, hrow⟩ := at_L2 HR0.out (kk : Int) (by omega) (by omega)
      cases e0
      replace hx := pw_cell_below HB.out hx
      have hrd : rd_L2 l0 (kk : Int) = l0[kk] := by show l0.getD (kk : Int).toNat [] = _; rw [Int.toNat_natCast]; exact getD_atL l0 [] kk hlt
      rw [hrd] at hx hc1 hrow
      rw [Int.toNat_natCast] at hx
      have hcall := HP.out l0[kk] A1 c1 wr HB.out (Kd.C_below hrow HB.out) hc1
      clear hrd
      generalize hy : l0[kk] = y at hx hcall
      have HY := Aside0.mk hy
      clear hy hrow hc1
      cases hq : p y with
      | true =>
        rw [hq] at hcall
        have HQ := Aside0.mk hq
        clear hq
        go_wp2_with (go_at_fn g; refine (hcall).mono ?_; rintro e w' ⟨rfl, hb⟩)
        go_ret
        refine ⟨?_, below_then HB.out HB.out.size hb⟩
        unfold idxOf
        rw [idxFrom_hit p l0 0 kk hlt (fun j hj => HN.out j (by omega) hj) (by rw [HY.out]; exact HQ.out), Nat.zero_add]
        rfl
      | false =>
        rw [hq] at hcall
        have HQ := Aside0.mk hq
        clear hq
        go_wp2_with (go_at_fn g; refine (hcall).mono ?_; rintro e w' ⟨rfl, hb⟩)
        go_roundg (l0.length - (kk + 1))
        case measure => omega
        case rel =>
          refine ⟨kk + 1, by omega, by omega, by go_num, ⟨below_then HB.out HB.out.size hb⟩, ⟨fun j hj hjk => ?_⟩⟩
          by_cases e : j = kk
          · subst e
            rw [HY.out]; exact HQ.out
          · exact HN.out j hj (by omega)
    · have hltz : ¬ (kk : Int) < (l0.length : Int) := by omega
      go_wp2
      go_ret
      refine ⟨?_, HB.out⟩
      unfold idxOf
      rw [idxFrom_miss p l0 0 (fun j hj => HN.out j hj (by omega))]
      rfl
theorem Rank_1.calls (x l : List (List Int)) (A A' : Option Addr) (c c' b : Nat) (W : World) (hx : Kd.C (Kd.slice 3 (Kd.int .i64)) W A x.length x) (hl : Kd.C (Kd.slice 3 (Kd.int .i64)) W A' l.length l) (hb : W.cell? ⟨b, 0, none⟩ = some (.slice A' l.length c')) :
    Gives Try.prog 107 #[.slice A x.length c, .pointer (some ⟨b, 0, none⟩)] W (.bool (decide (cmpT x l = 0))) := by
  unfold Gives
  have HC := Aside0.mk (impl_compareTables.calls' A c x A' c' l W hx hl)
  obtain ⟨z, hz⟩ : ∃ z, z = cmpT x l := ⟨_, rfl⟩
  rw [← hz] at HC ⊢
  clear hx hl hz
  go_enter Try.func107, Try.ntmps107
  go_wp2_with (go_at_call 108; refine HC.out.mono ?_; rintro e w1 ⟨rfl, hb1⟩)
  go_ret
  exact ⟨rfl, hb1⟩
/-- The number of a table, and whether it counts. -/
def rkB (n : Int) (l : List (List Int)) : Bool := inB n 1 4 && isDesc n l
def rkN (n : Int) (l : List (List Int)) : Int := if rkB n l = true then idxOf (fun T => decide (cmpT T l = 0)) (dsX n) else 0
set_option maxHeartbeats 2000000 in
theorem impl_RankDescending_calls (A : Option Addr) (c : Nat) (l : List (List Int)) (n : Int) (w : World) (hC : Kd.C (Kd.slice 3 (Kd.int .i64)) w A l.length l) (hc : l.length ≤ c) (hl : rowsOk l) :
    Calls Try.prog 56 #[.slice A l.length c, .int .i64 n] w fun e w' => e = .returned (.tuple #[.int .i64 (rkN n l), .bool (rkB n l)]) ∧ Below w.heap.size w w' := by
  have hb0 := below_alloc (Below.refl w.heap.size w) (.cells #[.slice A l.length c] 36)
  have HB0 := Aside0.mk hb0
  have hw := fun W => impl_within.calls n 1 4 (inB n 1 4) W rfl
  obtain ⟨k1, h1⟩ := (impl_isDesc_ev n l hl).rounds
  have HD := Aside0.mk (fun W (hb : Below w.heap.size w W) => impl_isDescending.calls k1 A c l n (isDesc n l) W (Kd.C_below hC hb) hc h1)
  have hx0 : (w.alloc (.cells #[.slice A l.length c] 36)).cell? ⟨w.heap.size, 0, none⟩ = some (.slice A l.length c) := blk_cell (blk_new w _) 0
  have HX0 := Aside0.mk hx0
  have HCC := Aside0.mk hC
  unfold rkN rkB
  clear hC hl h1 hb0
  cases hi : inB n 1 4 with
  | false =>
    rw [hi] at hw
    rw [Bool.false_and, if_neg (by simp)]
    clear hi hx0
    go_enter Try.func56, Try.ntmps56
    go_wp2_with (go_at_call 93; refine (hw _).mono ?_; rintro e w1 ⟨rfl, hd⟩; have hb := hd.below; clear hd)
    go_ret2
    exact ⟨rfl, below_step HB0.out hb⟩
  | true =>
    rw [hi] at hw
    obtain ⟨i0, i1⟩ := inB_true hi
    rw [Bool.true_and]
    cases hj : isDesc n l with
    | false =>
      rw [hj] at HD
      rw [if_neg (by simp)]
      clear hi hj hx0
      go_enter Try.func56, Try.ntmps56
      go_wp2_with (first
        | (go_at_call 93; refine (hw _).mono ?_; rintro e w1 ⟨rfl, hd⟩; have hx1 := pw_cell_below hd.below HX0.out; have HB1 := Aside0.mk (below_step HB0.out hd.below); clear hd)
        | (go_at_call 105; refine (HD.out _ HB1.out).mono ?_; rintro e w2 ⟨rfl, hb⟩))
      go_ret2
      exact ⟨rfl, below_step HB1.out hb⟩
    | true =>
      rw [hj] at HD
      rw [if_pos rfl]
      have HDS := Aside0.mk (fun W => impl_descending_calls n i0 (by omega) W)
      obtain ⟨X, hX⟩ : ∃ X, X = dsX n := ⟨_, rfl⟩
      rw [← hX] at HDS ⊢
      have HIX := Aside0.mk (fun (W : World) (A1 : Option Addr) (c1 : Nat) (hb : Below (w.alloc (.cells #[.slice A l.length c] 36)).heap.size (w.alloc (.cells #[.slice A l.length c] 36)) W) => slices_IndexFunc_tabs.calls 107 #[.pointer (some ⟨w.heap.size, 0, none⟩)] (fun T => decide (cmpT T l = 0)) A1 c1 X W (enters_of Try.func107 (by kernel_rfl) rfl) (fun x A2 c2 W2 hb2 hx _ => Rank_1.calls x l A2 A c2 c w.heap.size W2 hx (Kd.C_below (Kd.C_below (Kd.C_below HCC.out HB0.out) hb) hb2) (pw_cell_below hb2 (pw_cell_below hb HX0.out))))
      obtain ⟨z, hz⟩ : ∃ z, z = idxOf (fun T => decide (cmpT T l = 0)) X := ⟨_, rfl⟩
      rw [← hz] at HIX ⊢
      clear hi hj hX hz hx0
      go_enter Try.func56, Try.ntmps56
      go_wp2_with (first
        | (go_at_call 93; refine (hw _).mono ?_; rintro e w1 ⟨rfl, hd⟩; have hx1 := pw_cell_below hd.below HX0.out; have HBX := Aside0.mk hd.below; have HB1 := Aside0.mk (below_step HB0.out hd.below); clear hd)
        | (go_at_call 105; refine (HD.out _ HB1.out).mono ?_; rintro e w2 ⟨rfl, hb⟩; have HB2 := Aside0.mk (below_step HB1.out hb); have HBX2 := Aside0.mk (below_step HBX.out hb); clear hb)
        | (go_at_call 89; refine (HDS.out _).mono ?_; rintro e w3 ⟨v3, rfl, hS, hb⟩; obtain ⟨A3, c3, rfl⟩ := Kd.R_slice (Kd.S_R hS); have HRD := Aside0.mk (Kd.R_reads' (Kd.S_R hS)).2; have HB3 := Aside0.mk (below_step HB2.out hb); have HBX3 := Aside0.mk (below_step HBX2.out hb); clear hS hb)
        | (go_at_call 106; refine (HIX.out _ A3 c3 HBX3.out (tab_C HRD.out.2) HRD.out.1).mono ?_; rintro e w4 ⟨rfl, hb⟩; have HB4 := Aside0.mk (below_step HB3.out hb); clear hb))
      go_ret2
      exact ⟨rfl, HB4.out⟩
end Go.Proofs.Ytdcdkckpmkfjdaa.L

/- The walk of the law FnExactRankDescending, out of contracts of the two functions. -/
namespace Go.Proofs.Ytdcdkckpmkfjdaa.Law
open Go.RowKit Go.Proofs.Ytdcdkckpmkfjdaa Go.Proofs.Ytdcdkckpmkfjdaa.P Go.Proofs.Ytdcdkckpmkfjdaa.L Go.Proofs.YtdcdkckpmkfjdaaW.PrintWords Go.Proofs.YtdcdkckpmkfjdaaW.PrintLast Go.Proofs.YtdcdkckpmkfjdaaW.PrintMore
set_option linter.unusedVariables false
set_option linter.unusedSimpArgs false

set_option maxHeartbeats 8000000 in
set_option maxRecDepth 100000 in
theorem walkRankDescending (A : Option Addr) (cap : Nat) (l : List (List Int)) (n : Int) (r : Int) (b : Bool) (W : World) (h : RowsIn W A l.length cap l) (hl : fewRows l) (t : Int) (ht : ¬ t < 0) (k0 : Nat) (hsz : laws_szIntSS.f k0 l 1048576 = some t)
    (hspec : ∀ (W' : World) (A' : Option Addr) (c' : Nat), Kd.C (Kd.slice 3 (Kd.int .i64)) W' A' l.length l → l.length ≤ c' → Calls Try.prog 54 #[.slice A' l.length c', .int .i64 n] W' fun e w' => e = .returned (.tuple #[.int .i64 r, .bool b]) ∧ Below W'.heap.size W' w')
    (himpl : ∀ (W' : World) (A' : Option Addr) (c' : Nat), Kd.C (Kd.slice 3 (Kd.int .i64)) W' A' l.length l → l.length ≤ c' → Calls Try.prog 56 #[.slice A' l.length c', .int .i64 n] W' fun e w' => e = .returned (.tuple #[.int .i64 r, .bool b]) ∧ Below W'.heap.size W' w') :
    Calls Try.prog 16 #[.slice A l.length cap, .int .i64 n] W fun e w' => e = .returned (.bool true) ∧ Below W.heap.size W w' := by
  have HSP := Aside0.mk hspec
  have HIM := Aside0.mk himpl
  have HB := Aside0.mk (Below.refl W.heap.size W)
  have htd : decide (t < 0) = false := decide_eq_false ht
  obtain ⟨ke, hke⟩ := (eqIntSS l hl.ok).rounds
  have HSZ := Aside0.mk (fun W' hb => laws_szIntSS.calls k0 A cap l 1048576 t W' (Kd.C_below h.read hb) h.le hsz)
  have HTO := Aside0.mk (fun W' hb => laws_toIntSS.calls A cap l l W' (Kd.C_below h.read hb) h.le (toIntSS_eq l hl.ok))
  have HEL := Aside0.mk (fun W' A0 c0 A1 c1 h0 g0 h1 g1 => laws_eqIntSS.calls ke A0 c0 l A1 c1 l true W' h0 g0 h1 g1 hke)
  clear h hl ht hsz hspec himpl hke
  go_enter Try.func16, Try.ntmps16
  go_wp2_with (first
    | (go_at_call 53; refine (HSZ.out _ HB.out).mono ?_; rintro e w1 ⟨rfl, hd⟩; have hb := hd.below; clear hd; (try (have n_ := Aside0.mk (HX.out.below hb); clear HX; have HX := n_)); (try (have n_ := Aside0.mk (HT.out.below hb); clear HT; have HT := n_)); (have n_ := Aside0.mk (below_step HB.out hb)); clear HB; have HB := n_; clear hb)
    | (go_at_call 55; refine (HTO.out _ HB.out).mono ?_; rintro e w1 ⟨v, rfl, hS, hb⟩; have ho := Own.new hS HB.out.size; clear hS; obtain ⟨Av, cv, rfl, hcv⟩ := ho.slice; (try clear HT HTc); (try (have n_ := Aside0.mk (HX.out.below hb); clear HX; have HX := n_)); (try (have n_ := Aside0.mk (HT.out.below hb); clear HT; have HT := n_)); (have n_ := Aside0.mk (below_step HB.out hb)); clear HB; have HB := n_; clear hb; have HT := Aside0.mk ho; have HTc := Aside0.mk hcv; clear ho hcv)
    | (go_at_call 54; refine (HSP.out _ _ _ HT.out.reads HTc.out).mono ?_; rintro e w1 ⟨rfl, hb⟩; clear HT HTc; (try (have n_ := Aside0.mk (HX.out.below hb); clear HX; have HX := n_)); (try (have n_ := Aside0.mk (HT.out.below hb); clear HT; have HT := n_)); (have n_ := Aside0.mk (below_step HB.out hb)); clear HB; have HB := n_; clear hb)
    | (go_at_call 56; refine (HIM.out _ _ _ HT.out.reads HTc.out).mono ?_; rintro e w1 ⟨rfl, hb⟩; have HX := HT; have HXc := HTc; clear HT HTc; (try (have n_ := Aside0.mk (HX.out.below hb); clear HX; have HX := n_)); (try (have n_ := Aside0.mk (HT.out.below hb); clear HT; have HT := n_)); (have n_ := Aside0.mk (below_step HB.out hb)); clear HB; have HB := n_; clear hb)
    | (go_at_call 33; (with_reducible refine (HEL.out _ _ _ _ _ HX.out.reads HXc.out HT.out.reads HTc.out).mono ?_); rintro e w1 ⟨rfl, hd⟩; have hb := hd.below; clear hd; (try (have n_ := Aside0.mk (HX.out.below hb); clear HX; have HX := n_)); (try (have n_ := Aside0.mk (HT.out.below hb); clear HT; have HT := n_)); (have n_ := Aside0.mk (below_step HB.out hb)); clear HB; have HB := n_; clear hb))
  go_ret
  exact ⟨rfl, HB.out⟩
theorem skipRankDescending (A : Option Addr) (cap : Nat) (l : List (List Int)) (n : Int) (W : World) (h : RowsIn W A l.length cap l) (t : Int) (ht : t < 0) (k0 : Nat) (hsz : laws_szIntSS.f k0 l 1048576 = some t) :
    Calls Try.prog 16 #[.slice A l.length cap, .int .i64 n] W fun e w' => e = .returned (.bool true) ∧ Below W.heap.size W w' := by
  have HSZ := Aside0.mk (laws_szIntSS.calls k0 A cap l 1048576 t W h.read h.le hsz)
  have htd : decide (t < 0) = true := decide_eq_true ht
  clear h hsz
  go_enter Try.func16, Try.ntmps16
  go_wp2_with (go_at_call 53; refine HSZ.out.mono ?_; rintro e w1 ⟨rfl, hd⟩; have hb := hd.below; clear hd)
  go_ret
  exact ⟨rfl, hb⟩
/-- The law, out of the two functions' contracts. -/
theorem lawRankDescending (A : Option Addr) (cap : Nat) (l : List (List Int)) (n : Int) (W : World) (h : RowsIn W A l.length cap l)
    (hboth : fewRows l → ∃ (r : Int) (b : Bool),
      (∀ (W' : World) (A' : Option Addr) (c' : Nat), Kd.C (Kd.slice 3 (Kd.int .i64)) W' A' l.length l → l.length ≤ c' → Calls Try.prog 54 #[.slice A' l.length c', .int .i64 n] W' fun e w' => e = .returned (.tuple #[.int .i64 r, .bool b]) ∧ Below W'.heap.size W' w') ∧
      (∀ (W' : World) (A' : Option Addr) (c' : Nat), Kd.C (Kd.slice 3 (Kd.int .i64)) W' A' l.length l → l.length ≤ c' → Calls Try.prog 56 #[.slice A' l.length c', .int .i64 n] W' fun e w' => e = .returned (.tuple #[.int .i64 r, .bool b]) ∧ Below W'.heap.size W' w')) :
    Calls Try.prog 16 #[.slice A l.length cap, .int .i64 n] W fun e w' => e = .returned (.bool true) ∧ Below W.heap.size W w' := by
  obtain ⟨t, ht, hd⟩ := szIntSS_in h
  obtain ⟨k, hk⟩ := ht.rounds
  by_cases hn : t < 0
  · exact skipRankDescending A cap l n W h t hn k hk
  · have hf := hd.resolve_left hn
    obtain ⟨r, b, h1, h2⟩ := hboth hf
    exact walkRankDescending A cap l n r b W h hf t hn k hk h1 h2
end Go.Proofs.Ytdcdkckpmkfjdaa.Law

/- The program's RankDescending answers as the reference's RankDescending, for every table and number; the table stays as it was (the walk of the law FnExactRankDescending; no condition). -/
namespace Go.Proofs.Ytdcdkckpmkfjdaa.Law
open Go.RowKit Go.Proofs.Ytdcdkckpmkfjdaa Go.Proofs.Ytdcdkckpmkfjdaa.P Go.Proofs.Ytdcdkckpmkfjdaa.L Go.Proofs.YtdcdkckpmkfjdaaW.PrintWords Go.Proofs.YtdcdkckpmkfjdaaW.PrintLast Go.Proofs.YtdcdkckpmkfjdaaW.PrintMore
set_option linter.unusedVariables false

theorem drop_eq_iff (a b : List Int) (i : Nat) (ha : i < a.length) (hb : i < b.length) : a.drop i = b.drop i ↔ rd a i = rd b i ∧ a.drop (i + 1) = b.drop (i + 1) := by
  rw [List.drop_eq_getElem_cons ha, List.drop_eq_getElem_cons hb, rd_at a i ha, rd_at b i hb, List.cons.injEq]
theorem spec_l1Same_l0 (a b : List Int) (hl : a.length ≤ 35184372088832) (hab : a.length = b.length) : ∀ (d i : Nat), i + d = a.length → Ev (fun k => spec_l1Same.l0 k a b a.length i) (decide (a.drop i = b.drop i)) := by
  intro d
  induction d with
  | zero =>
    intro i hi
    refine Ev.step (fun k => by rw [spec_l1Same.l0]) ?_
    rw [List.drop_eq_nil_of_le (by omega), List.drop_eq_nil_of_le (by omega)]
    exact Ev.ite_neg (by omega) (Ev.now _)
  | succ d ih =>
    intro i hi
    refine Ev.step (fun k => by rw [spec_l1Same.l0]) ?_
    refine Ev.ite_pos (by omega) (Ev.ite_pos (by omega) (Ev.ite_pos (by omega) (Ev.ite_pos (by omega) ?_)))
    have he := drop_eq_iff a b i (by omega) (by omega)
    by_cases h : rd a i = rd b i
    · refine Ev.ite_pos h ?_
      rw [wrapS i (by omega), show decide (a.drop i = b.drop i) = decide (a.drop (i + 1) = b.drop (i + 1)) from by rw [decide_eq_decide, he]; simp [h]]
      exact ih (i + 1) (by omega)
    · refine Ev.ite_neg h ?_
      rw [decide_eq_false (fun h2 => h (he.1 h2).1)]
      exact Ev.now _
theorem spec_l1Same_ev (a b : List Int) (hl : a.length ≤ 35184372088832) : Ev (fun k => spec_l1Same.f k a b) (decide (a = b)) := by
  unfold spec_l1Same.f
  by_cases h : (a.length : Int) = (b.length : Int)
  · refine Ev.ite_pos h ?_
    have := spec_l1Same_l0 a b hl (by omega) a.length 0 (by omega)
    simpa using this
  · refine Ev.ite_neg h ?_
    rw [decide_eq_false (fun e => h (by rw [e]))]
    exact Ev.now _
theorem weSame_l0 (a b : List (List Int)) (hl : fewRows a) (hab : a.length = b.length) : ∀ (d i : Nat), i + d = a.length → Ev (fun k => spec_weSame.l0 k b a a.length i) (decide (a.drop i = b.drop i)) := by
  have hl1 := hl.1
  intro d
  induction d with
  | zero =>
    intro i hi
    refine Ev.step (fun k => by rw [spec_weSame.l0]) ?_
    rw [List.drop_eq_nil_of_le (by omega), List.drop_eq_nil_of_le (by omega)]
    exact Ev.ite_neg (by omega) (Ev.now _)
  | succ d ih =>
    intro i hi
    have ha : i < a.length := by omega
    have hb : i < b.length := by omega
    refine Ev.step (fun k => by rw [spec_weSame.l0]) ?_
    refine Ev.ite_pos (by omega) (Ev.ite_pos (by omega) (Ev.ite_pos (by omega) (Ev.ite_pos (by omega) ?_)))
    rw [rd1_at a i ha, rd1_at b i hb, List.drop_eq_getElem_cons ha, List.drop_eq_getElem_cons hb]
    refine Ev.bind (spec_l1Same_ev a[i] b[i] (by have := hl.2 _ (List.getElem_mem ha); omega)) ?_
    by_cases h : a[i] = b[i]
    · rw [decide_eq_true h, wrapS i (by omega), show decide (a[i] :: a.drop (i + 1) = b[i] :: b.drop (i + 1)) = decide (a.drop (i + 1) = b.drop (i + 1)) from by rw [decide_eq_decide, List.cons.injEq]; simp [h]]
      exact Ev.ite_pos rfl (ih (i + 1) (by omega))
    · rw [decide_eq_false h, decide_eq_false (fun h2 => h (List.cons.inj h2).1)]
      exact Ev.ite_neg (by simp) (Ev.now _)
theorem weSame_ev (a b : List (List Int)) (hl : fewRows a) : Ev (fun k => spec_weSame.f k a b) (decide (a = b)) := by
  unfold spec_weSame.f
  by_cases h : (a.length : Int) = (b.length : Int)
  · refine Ev.ite_pos h ?_
    have := weSame_l0 a b hl (by omega) a.length 0 (by omega)
    simpa using this
  · refine Ev.ite_neg h ?_
    rw [decide_eq_false (fun e => h (by rw [e]))]
    exact Ev.now _
theorem rk_l0 (l : List (List Int)) (X : List (List (List Int))) (hX : X.length ≤ 2000) (hf : ∀ T ∈ X, fewRows T) (hnd : X.Nodup) : ∀ (d i : Nat) (acc : Int), i + d = X.length → Ev (fun k => spec_RankDescending.l0 k l acc X X.length i) (if l ∈ X.drop i then idxFrom (fun T => decide (cmpT T l = 0)) i (X.drop i) else acc, true) := by
  intro d
  induction d with
  | zero =>
    intro i acc hi
    refine Ev.step (fun k => by rw [spec_RankDescending.l0]) ?_
    rw [List.drop_of_length_le (show X.length ≤ i by omega), if_neg (by simp)]
    exact Ev.ite_neg (by omega) (Ev.now _)
  | succ d ih =>
    intro i acc hi
    have hlt : i < X.length := by omega
    refine Ev.step (fun k => by rw [spec_RankDescending.l0]) ?_
    have hrd : rd_L2 X (i : Int) = X[i] := by show X.getD (i : Int).toNat [] = _; rw [Int.toNat_natCast]; exact getD_atL X [] i hlt
    rw [hrd, wrapS i (by omega), List.drop_eq_getElem_cons hlt]
    refine Ev.ite_pos (by omega) (Ev.ite_pos (by omega) (Ev.ite_pos (by omega) (Ev.bind (weSame_ev X[i] l (hf _ (List.getElem_mem hlt))) ?_)))
    by_cases he : X[i] = l
    · rw [decide_eq_true he, if_pos (by simp [he]), idxFrom, if_pos (by rw [decide_eq_true ((cmpT_zero _ _).2 he)])]
      have hn : l ∉ X.drop (i + 1) := by
        have h2 : (X.drop i).Nodup := hnd.sublist (List.drop_sublist i X)
        rw [List.drop_eq_getElem_cons hlt, he] at h2
        exact (List.nodup_cons.1 h2).1
      have := ih (i + 1) (i : Int) (by omega)
      rw [if_neg hn] at this
      exact Ev.ite_pos rfl this
    · have hst : idxFrom (fun T => decide (cmpT T l = 0)) i (X[i] :: X.drop (i + 1)) = idxFrom (fun T => decide (cmpT T l = 0)) (i + 1) (X.drop (i + 1)) := by
        rw [idxFrom, if_neg (by rw [decide_eq_false (fun h => he ((cmpT_zero _ _).1 h))]; simp)]
      have := ih (i + 1) acc (by omega)
      rw [decide_eq_false he, hst]
      refine Ev.ite_neg (by simp) ?_
      by_cases hm : l ∈ X.drop (i + 1)
      · rw [if_pos hm] at this
        rw [if_pos (List.mem_cons_of_mem _ hm)]
        exact this
      · rw [if_neg hm] at this
        rw [if_neg (fun h => hm ((List.mem_cons.1 h).resolve_left (fun e => he e.symm)))]
        exact this
theorem spec_Rank_ev (n : Int) (l : List (List Int)) (hl : rowsOk l) : Ev (fun k => spec_RankDescending.f k l n) (rkN n l, rkB n l) := by
  unfold spec_RankDescending.f rkN rkB
  rw [small_eq]
  simp only [Option.bind_some]
  cases hi : inB n 1 4 with
  | false =>
    rw [Bool.false_and, if_neg (by simp)]
    refine Ev.ite_neg (by simp) ?_
    refine Ev.step (fun k => by rw [spec_RankDescending.j0]) ?_
    exact Ev.ite_pos rfl (Ev.now _)
  | true =>
    obtain ⟨h0, h1⟩ := inB_true hi
    rw [Bool.true_and]
    refine Ev.ite_pos rfl (Ev.bind (spec_isDesc_ev n l hl (by omega)) ?_)
    refine Ev.step (fun k => by rw [spec_RankDescending.j0]) ?_
    cases hj : isDesc n l with
    | false =>
      rw [if_neg (by simp)]
      exact Ev.ite_pos rfl (Ev.now _)
    | true =>
      have hd := ds_all h0 (show n ≤ 5 by omega)
      rw [if_pos rfl]
      refine Ev.ite_neg (by simp) (Ev.bind (Ev.of (spec_dpAll.mono [] n) hd.sp) ?_)
      have := rk_l0 l (dsX n) hd.len (fun T hT => ⟨by have := (hd.row T hT).1; omega, fun r hr => by have := (hd.row T hT).2 r hr; omega⟩) (all_n h0 h1).2 (dsX n).length 0 0 (by omega)
      rw [List.drop_zero, if_pos (desc_mem h0 h1 l hj)] at this
      exact this
theorem FnExactRankDescending (A : Option Addr) (cap : Nat) (l : List (List Int)) {W0 : World} (h : RowsIn W0 A l.length cap l) (n : Int) (_hn : (Lit.int .i64 n).wf = true) (W : World) (hW : W = W0) :
    Calls Try.prog 16 #[.slice A l.length cap, .int .i64 n] W fun e w' => e = .returned (.bool true) ∧ Below W.heap.size W w' := by
  subst hW
  refine lawRankDescending A cap l n W h fun hf => ?_
  obtain ⟨k, hk⟩ := (spec_Rank_ev n l hf.ok).rounds
  exact ⟨rkN n l, rkB n l, fun W' A' c' hC hc => spec_RankDescending.calls k A' c' l n _ _ W' hC hc hk, fun W' A' c' hC hc => impl_RankDescending_calls A' c' l n W' hC hc hf.ok⟩
end Go.Proofs.Ytdcdkckpmkfjdaa.Law
