import Derived.Test.YtojohgjjlljbiaaDoorLs
import Derived.Test.YtojohgjjlljbiaaDoorPx11
import Derived.Test.YtojohgjjlljbiaaDoorPx13
namespace Go.Proofs.YtojohgjjlljbiaaDoor.L
open Go.RowKit Go.Proofs.YtojohgjjlljbiaaDoor Go.Proofs.YtojohgjjlljbiaaDoor.P Go.Proofs.YtojohgjjlljbiaaDoorW.PrintWords Go.Proofs.YtojohgjjlljbiaaDoorW.PrintLast Go.Proofs.YtojohgjjlljbiaaDoorW.PrintMore

theorem l1In_eq (a b c : Int) : spec_l1In.f a b c = some (inB a b c) := by
  unfold spec_l1In.f inB
  by_cases h : a ≥ b
  · rw [if_pos h]; simp [show b ≤ a from h]
  · rw [if_neg h]; simp [show ¬ b ≤ a from h]
theorem l1All_l0 (l : List Int) (a b : Int) (hl : l.length ≤ 17592186044416) : ∀ (d i : Nat), i + d = l.length → Ev (fun k => spec_l1All.l0 k a b l l.length i) ((l.drop i).all fun x => inB x a b) := by
  intro d
  induction d with
  | zero =>
    intro i hi
    refine Ev.step (fun k => by rw [spec_l1All.l0]) ?_
    rw [List.drop_eq_nil_of_le (by omega)]
    exact Ev.ite_neg (by omega) (Ev.now _)
  | succ d ih =>
    intro i hi
    refine Ev.step (fun k => by rw [spec_l1All.l0]) ?_
    refine Ev.ite_pos (by omega) (Ev.ite_pos (by omega) (Ev.ite_pos (by omega) ?_))
    rw [l1In_eq, rd_at l i (by omega), List.drop_eq_getElem_cons (by omega), List.all_cons]
    simp only [Option.bind_some]
    cases h : inB l[i] a b with
    | true =>
      refine Ev.ite_pos rfl ?_
      rw [wrapS i (by omega), Bool.true_and]
      exact ih (i + 1) (by omega)
    | false => exact Ev.ite_neg (by simp) (Ev.now _)
theorem l1All_ev (l : List Int) (a b : Int) (hl : l.length ≤ 17592186044416) : Ev (fun k => spec_l1All.f k l a b) (l.all fun x => inB x a b) := l1All_l0 l a b hl l.length 0 (by omega)

/-- From place i on no number is greater than the one before. -/
def noninc (r : List Int) (i : Nat) : Bool := (List.range' i (r.length - i)).all fun z => decide (rd r z ≤ rd r ((z - 1 : Nat) : Int))
theorem noninc_end (r : List Int) (i : Nat) (h : r.length ≤ i) : noninc r i = true := by unfold noninc; rw [show r.length - i = 0 by omega]; rfl
theorem noninc_step (r : List Int) (i : Nat) (h : i < r.length) : noninc r i = (decide (rd r i ≤ rd r ((i - 1 : Nat) : Int)) && noninc r (i + 1)) := by
  unfold noninc
  obtain ⟨m, hm⟩ : ∃ m, r.length - i = m + 1 := ⟨r.length - i - 1, by omega⟩
  rw [hm, show r.length - (i + 1) = m by omega, List.range'_succ, List.all_cons]
/-- Parts that can be a row. -/
def rowGood (n : Int) (r : List Int) : Bool := decide (0 < r.length) && ((r.all fun x => inB x 1 n) && (decide ((r.length : Int) < rd r 0) && noninc r 1))
theorem all_rd {r : List Int} {a b : Int} (h : (r.all fun x => inB x a b) = true) (i : Nat) (hi : i < r.length) : a ≤ rd r i ∧ rd r i ≤ b := by
  rw [rd_at r i hi]
  exact (inB_iff _ _ _).1 (List.all_eq_true.1 h _ (List.getElem_mem hi))
theorem rowGood_facts {n : Int} {r : List Int} (h : rowGood n r = true) : 0 < r.length ∧ (r.length : Int) < n ∧ (r.all fun x => inB x 1 n) = true ∧ (r.length : Int) < rd r 0 := by
  simp only [rowGood, Bool.and_eq_true] at h
  have h1 := of_decide_eq_true h.1
  have h3 := of_decide_eq_true h.2.2.1
  have h2 := all_rd h.2.1 0 h1
  simp only [Int.natCast_zero] at h2
  have : rd r ((0 : Nat) : Int) = rd r 0 := rfl
  exact ⟨h1, by omega, h.2.1, h3⟩

theorem dpRow_l0 (r : List Int) (hl : r.length ≤ 17592186044416) : ∀ (d i : Nat), 1 ≤ i → r.length - i ≤ d → Ev (fun k => spec_dpRow.l0 k r i) (noninc r i) := by
  intro d
  induction d with
  | zero =>
    intro i h1 hi
    refine Ev.step (fun k => by rw [spec_dpRow.l0]) ?_
    rw [noninc_end r i (by omega)]
    exact Ev.ite_neg (by omega) (Ev.now _)
  | succ d ih =>
    intro i h1 hi
    refine Ev.step (fun k => by rw [spec_dpRow.l0]) ?_
    by_cases hlt : i < r.length
    · rw [wrapP i h1 (by omega), noninc_step r i hlt]
      refine Ev.ite_pos (by omega) (Ev.ite_pos (by omega) (Ev.ite_pos (by omega) (Ev.ite_pos (by omega) ?_)))
      by_cases hq : rd r i > rd r ((i - 1 : Nat) : Int)
      · refine Ev.ite_pos hq ?_
        rw [decide_eq_false (by omega)]
        exact Ev.now _
      · refine Ev.ite_neg hq ?_
        rw [decide_eq_true (by omega), Bool.true_and, wrapS i (by omega)]
        exact ih (i + 1) (by omega) (by omega)
    · rw [noninc_end r i (by omega)]
      exact Ev.ite_neg (by omega) (Ev.now _)
theorem dpRow_j0 (r : List Int) (b : Bool) (hl : r.length ≤ 17592186044416) : Ev (fun k => spec_dpRow.j0 k r b) (!b && noninc r 1) := by
  refine Ev.step (fun k => by rw [spec_dpRow.j0]) ?_
  cases b with
  | true => exact Ev.ite_pos rfl (Ev.now _)
  | false => exact Ev.ite_neg (by simp) (dpRow_l0 r hl r.length 1 (by omega) (by omega))
theorem dpRow_ev (r : List Int) (n : Int) (hl : r.length ≤ 17592186044416) : Ev (fun k => spec_dpRow.f k r n) (rowGood n r) := by
  unfold spec_dpRow.f
  by_cases h0 : (r.length : Int) = 0
  · refine Ev.ite_pos h0 ?_
    have : rowGood n r = false := by unfold rowGood; rw [decide_eq_false (by omega)]; rfl
    rw [this]
    exact dpRow_j0 r true hl
  · refine Ev.ite_neg h0 ?_
    by_cases h1 : (r.length : Int) ≥ n
    · refine Ev.ite_pos h1 ?_
      have : rowGood n r = false := by
        cases hg : rowGood n r with
        | false => rfl
        | true => have := (rowGood_facts hg).2.1; omega
      rw [this]
      exact dpRow_j0 r true hl
    · refine Ev.ite_neg h1 (Ev.bind (l1All_ev r 1 n hl) ?_)
      unfold rowGood
      rw [decide_eq_true (show 0 < r.length by omega), Bool.true_and]
      cases h2 : (r.all fun x => inB x 1 n) with
      | false => exact Ev.ite_neg (by simp) (dpRow_j0 r true hl)
      | true =>
        refine Ev.ite_pos rfl (Ev.ite_pos (by omega) ?_)
        have := dpRow_j0 r (decide (rd r 0 ≤ (r.length : Int))) hl
        rw [show (!decide (rd r 0 ≤ (r.length : Int))) = decide ((r.length : Int) < rd r 0) from by by_cases hq : rd r 0 ≤ (r.length : Int) <;> simp [hq] <;> omega] at this
        rw [Bool.true_and]
        exact this
theorem descRow_l0 (r : List Int) (n : Int) (hl : r.length ≤ 17592186044416) : ∀ (d i : Nat), 1 ≤ i → r.length - i ≤ d → Ev (fun k => impl_isDescendedRow.l0 k r n i) (noninc r i && (decide (0 < r.length) && ((r.all fun x => inB x 1 n) && decide ((r.length : Int) < rd r 0)))) := by
  have fin : ∀ i, 1 ≤ i → r.length ≤ i → Ev (fun k => impl_isDescendedRow.l0 k r n i) (noninc r i && (decide (0 < r.length) && ((r.all fun x => inB x 1 n) && decide ((r.length : Int) < rd r 0)))) := by
    intro i h1 hi
    refine Ev.step (fun k => by rw [impl_isDescendedRow.l0]) ?_
    rw [noninc_end r i hi, Bool.true_and]
    refine Ev.ite_neg (by omega) ?_
    by_cases h0 : (r.length : Int) > 0
    · refine Ev.ite_pos h0 (Ev.some_bind rfl ?_)
      rw [decide_eq_true (show 0 < r.length by omega), Bool.true_and]
      cases h2 : (r.all fun x => inB x 1 n) with
      | false => exact Ev.ite_neg (by simp) (Ev.now _)
      | true => exact Ev.ite_pos rfl (Ev.ite_pos (by omega) (Ev.now _))
    · refine Ev.ite_neg h0 ?_
      rw [decide_eq_false (show ¬ 0 < r.length by omega)]
      exact Ev.now _
  intro d
  induction d with
  | zero => intro i h1 hi; exact fin i h1 (by omega)
  | succ d ih =>
    intro i h1 hi
    by_cases hlt : i < r.length
    · refine Ev.step (fun k => by rw [impl_isDescendedRow.l0]) ?_
      rw [wrapP i h1 (by omega), noninc_step r i hlt]
      refine Ev.ite_pos (by omega) (Ev.ite_pos (by omega) (Ev.ite_pos (by omega) (Ev.ite_pos (by omega) ?_)))
      by_cases hq : rd r i > rd r ((i - 1 : Nat) : Int)
      · refine Ev.ite_pos hq ?_
        rw [decide_eq_false (show ¬ rd r i ≤ rd r ((i - 1 : Nat) : Int) by omega)]
        exact Ev.now _
      · refine Ev.ite_neg hq ?_
        rw [decide_eq_true (show rd r i ≤ rd r ((i - 1 : Nat) : Int) by omega), Bool.true_and, wrapS i (by omega)]
        exact ih (i + 1) (by omega) (by omega)
    · exact fin i h1 (by omega)
theorem descRow_ev (r : List Int) (n : Int) (hl : r.length ≤ 17592186044416) : Ev (fun k => impl_isDescendedRow.f k r n) (rowGood n r) := by
  unfold impl_isDescendedRow.f
  have h := descRow_l0 r n hl r.length 1 (by omega) (by omega)
  have e : (noninc r 1 && (decide (0 < r.length) && ((r.all fun x => inB x 1 n) && decide ((r.length : Int) < rd r 0)))) = rowGood n r := by
    unfold rowGood
    cases noninc r 1 <;> cases decide (0 < r.length) <;> cases (r.all fun x => inB x 1 n) <;> simp
  rw [e] at h
  exact h

/-- From place i on each number is less than the one above and to the right. -/
def under (a r : List Int) (i : Nat) : Bool := (List.range' i (r.length - i)).all fun z => decide (rd r z < rd a ((z + 1 : Nat) : Int))
theorem under_end (a r : List Int) (i : Nat) (h : r.length ≤ i) : under a r i = true := by unfold under; rw [show r.length - i = 0 by omega]; rfl
theorem under_step (a r : List Int) (i : Nat) (h : i < r.length) : under a r i = (decide (rd r i < rd a ((i + 1 : Nat) : Int)) && under a r (i + 1)) := by
  unfold under
  obtain ⟨m, hm⟩ : ∃ m, r.length - i = m + 1 := ⟨r.length - i - 1, by omega⟩
  rw [hm, show r.length - (i + 1) = m by omega, List.range'_succ, List.all_cons]
/-- Row r can stand below row a. -/
def belowB (a r : List Int) : Bool := decide (r.length < a.length) && (decide (rd r 0 ≤ (a.length : Int)) && under a r 0)

theorem dpBelow_l0 (a r : List Int) (hl : r.length ≤ 17592186044416) (hlt : r.length < a.length) : ∀ (d i : Nat), i + d = r.length → Ev (fun k => spec_dpBelow.l0 k a r r.length i) (under a r i) := by
  intro d
  induction d with
  | zero =>
    intro i hi
    refine Ev.step (fun k => by rw [spec_dpBelow.l0]) ?_
    rw [under_end a r i (by omega)]
    exact Ev.ite_neg (by omega) (Ev.now _)
  | succ d ih =>
    intro i hi
    refine Ev.step (fun k => by rw [spec_dpBelow.l0]) ?_
    rw [wrapS i (by omega), under_step a r i (by omega)]
    refine Ev.ite_pos (by omega) (Ev.ite_pos (by omega) (Ev.ite_pos (by omega) (Ev.ite_pos (by omega) (Ev.ite_pos (by omega) ?_))))
    by_cases hq : rd r i ≥ rd a ((i + 1 : Nat) : Int)
    · refine Ev.ite_pos hq ?_
      rw [decide_eq_false (by omega)]
      exact Ev.now _
    · refine Ev.ite_neg hq ?_
      rw [decide_eq_true (by omega), Bool.true_and]
      exact ih (i + 1) (by omega)

theorem stands_l0 (a r : List Int) (hl : r.length ≤ 17592186044416) (hlt : r.length < a.length) : ∀ (d i : Nat), i + d = r.length → Ev (fun k => impl_standsBelow.l0 k a r r.length i) (under a r i) := by
  intro d
  induction d with
  | zero =>
    intro i hi
    refine Ev.step (fun k => by rw [impl_standsBelow.l0]) ?_
    rw [under_end a r i (by omega)]
    exact Ev.ite_neg (by omega) (Ev.now _)
  | succ d ih =>
    intro i hi
    refine Ev.step (fun k => by rw [impl_standsBelow.l0]) ?_
    rw [wrapS i (by omega), under_step a r i (by omega)]
    refine Ev.ite_pos (by omega) (Ev.ite_pos (by omega) (Ev.ite_pos (by omega) (Ev.ite_pos (by omega) (Ev.ite_pos (by omega) ?_))))
    by_cases hq : rd r i ≥ rd a ((i + 1 : Nat) : Int)
    · refine Ev.ite_pos hq ?_
      rw [decide_eq_false (by omega)]
      exact Ev.now _
    · refine Ev.ite_neg hq ?_
      rw [decide_eq_true (by omega), Bool.true_and]
      exact ih (i + 1) (by omega)

theorem dpBelow_ev (a r : List Int) (hl : r.length ≤ 17592186044416) (h0 : 0 < r.length) : Ev (fun k => spec_dpBelow.f k r a) (belowB a r) := by
  have j : ∀ b : Bool, (b = false → r.length < a.length) → Ev (fun k => spec_dpBelow.j0 k r a b) (!b && under a r 0) := by
    intro b hb
    refine Ev.step (fun k => by rw [spec_dpBelow.j0]) ?_
    cases b with
    | true => exact Ev.ite_pos rfl (Ev.now _)
    | false => exact Ev.ite_neg (by simp) (dpBelow_l0 a r hl (hb rfl) r.length 0 (by omega))
  unfold spec_dpBelow.f belowB
  by_cases h1 : (r.length : Int) ≥ (a.length : Int)
  · refine Ev.ite_pos h1 ?_
    rw [decide_eq_false (show ¬ r.length < a.length by omega)]
    exact j true (by simp)
  · refine Ev.ite_neg h1 (Ev.ite_pos (by omega) ?_)
    rw [decide_eq_true (show r.length < a.length by omega), Bool.true_and]
    have := j (decide (rd r 0 > (a.length : Int))) (fun _ => by omega)
    rw [show (!decide (rd r 0 > (a.length : Int))) = decide (rd r 0 ≤ (a.length : Int)) from by by_cases hq : rd r 0 ≤ (a.length : Int) <;> simp [hq] <;> omega] at this
    exact this
theorem stands_ev (a r : List Int) (hl : r.length ≤ 17592186044416) (h0 : 0 < r.length) : Ev (fun k => impl_standsBelow.f k a r) (belowB a r) := by
  have j : ∀ b : Bool, (b = false → r.length < a.length) → Ev (fun k => impl_standsBelow.j0 k a r b) (!b && under a r 0) := by
    intro b hb
    refine Ev.step (fun k => by rw [impl_standsBelow.j0]) ?_
    cases b with
    | true => exact Ev.ite_pos rfl (Ev.now _)
    | false => exact Ev.ite_neg (by simp) (stands_l0 a r hl (hb rfl) r.length 0 (by omega))
  unfold impl_standsBelow.f belowB
  refine Ev.ite_pos (by omega) ?_
  by_cases h1 : rd r 0 > (a.length : Int)
  · refine Ev.ite_pos h1 ?_
    rw [decide_eq_false (show ¬ rd r 0 ≤ (a.length : Int) by omega), Bool.false_and, Bool.and_false]
    exact j true (by simp)
  · refine Ev.ite_neg h1 ?_
    rw [decide_eq_true (show rd r 0 ≤ (a.length : Int) by omega), Bool.true_and]
    have := j (decide ((r.length : Int) ≥ (a.length : Int))) (fun h => by have := of_decide_eq_false h; omega)
    rw [show (!decide ((r.length : Int) ≥ (a.length : Int))) = decide (r.length < a.length) from by by_cases hq : r.length < a.length <;> simp [hq] <;> omega] at this
    exact this

/-- From row i on all rows are right. -/
def goodFrom (n : Int) (l : List (List Int)) (i : Nat) : Bool := (List.range' i (l.length - i)).all fun z => rowGood n (l.getD z []) && (decide (z = 0) || belowB (l.getD (z - 1) []) (l.getD z []))
theorem goodFrom_end (n : Int) (l : List (List Int)) (i : Nat) (h : l.length ≤ i) : goodFrom n l i = true := by unfold goodFrom; rw [show l.length - i = 0 by omega]; rfl
theorem goodFrom_step (n : Int) (l : List (List Int)) (i : Nat) (h : i < l.length) : goodFrom n l i = ((rowGood n (l.getD i []) && (decide (i = 0) || belowB (l.getD (i - 1) []) (l.getD i []))) && goodFrom n l (i + 1)) := by
  unfold goodFrom
  obtain ⟨m, hm⟩ : ∃ m, l.length - i = m + 1 := ⟨l.length - i - 1, by omega⟩
  rw [hm, show l.length - (i + 1) = m by omega, List.range'_succ, List.all_cons]
/-- The rows are a descending plane partition for n. -/
def isDesc (n : Int) (l : List (List Int)) : Bool := goodFrom n l 0

theorem specGood_l0 (n : Int) (l : List (List Int)) (hl : rowsOk l) : ∀ (d i : Nat), i + d = l.length → Ev (fun k => spec_dpGood.l0 k l n l l.length i) (goodFrom n l i) := by
  have hl1 := hl.1
  intro d
  induction d with
  | zero =>
    intro i hi
    refine Ev.step (fun k => by rw [spec_dpGood.l0]) ?_
    rw [goodFrom_end n l i (by omega)]
    exact Ev.ite_neg (by omega) (Ev.now _)
  | succ d ih =>
    intro i hi
    refine Ev.step (fun k => by rw [spec_dpGood.l0]) ?_
    rw [goodFrom_step n l i (by omega), wrapS i (by omega), rd1_get]
    refine Ev.ite_pos (by omega) (Ev.ite_pos (by omega) (Ev.ite_pos (by omega) (Ev.bind (dpRow_ev (l.getD i []) n (hl.at_ i)) ?_)))
    cases hg : rowGood n (l.getD i []) with
    | false => exact Ev.ite_neg (by simp) (Ev.now _)
    | true =>
      refine Ev.ite_pos rfl ?_
      by_cases h0 : i = 0
      · subst h0
        refine Ev.ite_neg (by omega) ?_
        simp only [decide_true, Bool.true_or, Bool.true_and]
        exact ih (0 + 1) (by omega)
      · refine Ev.ite_pos (by omega) ?_
        rw [wrapP i (by omega) (by omega), rd1_get]
        refine Ev.ite_pos (by omega) (Ev.ite_pos (by omega) (Ev.bind (dpBelow_ev (l.getD (i - 1) []) (l.getD i []) (hl.at_ i) (rowGood_facts hg).1) ?_))
        rw [decide_eq_false h0, Bool.false_or, Bool.true_and]
        cases hb : belowB (l.getD (i - 1) []) (l.getD i []) with
        | false => exact Ev.ite_neg (by simp) (Ev.now _)
        | true =>
          refine Ev.ite_pos rfl ?_
          rw [Bool.true_and]
          exact ih (i + 1) (by omega)

theorem implGood_l0 (n : Int) (l : List (List Int)) (hl : rowsOk l) : ∀ (d i : Nat), i + d = l.length → Ev (fun k => impl_isDescending.l0 k l n l l.length i) (goodFrom n l i) := by
  have hl1 := hl.1
  intro d
  induction d with
  | zero =>
    intro i hi
    refine Ev.step (fun k => by rw [impl_isDescending.l0]) ?_
    rw [goodFrom_end n l i (by omega)]
    exact Ev.ite_neg (by omega) (Ev.now _)
  | succ d ih =>
    intro i hi
    refine Ev.step (fun k => by rw [impl_isDescending.l0]) ?_
    rw [goodFrom_step n l i (by omega), wrapS i (by omega), rd1_get]
    refine Ev.ite_pos (by omega) (Ev.ite_pos (by omega) (Ev.ite_pos (by omega) (Ev.bind (descRow_ev (l.getD i []) n (hl.at_ i)) ?_)))
    cases hg : rowGood n (l.getD i []) with
    | false => exact Ev.ite_neg (by simp) (Ev.now _)
    | true =>
      refine Ev.ite_pos rfl ?_
      by_cases h0 : i = 0
      · subst h0
        refine Ev.ite_neg (by omega) ?_
        simp only [decide_true, Bool.true_or, Bool.true_and]
        exact ih (0 + 1) (by omega)
      · refine Ev.ite_pos (by omega) ?_
        rw [wrapP i (by omega) (by omega), rd1_get]
        refine Ev.ite_pos (by omega) (Ev.ite_pos (by omega) (Ev.bind (stands_ev (l.getD (i - 1) []) (l.getD i []) (hl.at_ i) (rowGood_facts hg).1) ?_))
        rw [decide_eq_false h0, Bool.false_or, Bool.true_and]
        cases hb : belowB (l.getD (i - 1) []) (l.getD i []) with
        | false => exact Ev.ite_neg (by simp) (Ev.now _)
        | true =>
          refine Ev.ite_pos rfl ?_
          rw [Bool.true_and]
          exact ih (i + 1) (by omega)

theorem impl_isDesc_ev (n : Int) (l : List (List Int)) (hl : rowsOk l) : Ev (fun k => impl_isDescending.f k l n) (isDesc n l) := implGood_l0 n l hl l.length 0 (by omega)
theorem goodFrom_short (n : Int) (l : List (List Int)) : ∀ (d i : Nat), i + d = l.length → 1 ≤ i → 1 ≤ (l.getD (i - 1) []).length → ((l.getD (i - 1) []).length : Int) + i ≤ n → goodFrom n l i = true → (l.length : Int) ≤ n := by
  intro d
  induction d with
  | zero => intro i hi _ h1 h2 _; omega
  | succ d ih =>
    intro i hi h1 h2 h3 hg
    rw [goodFrom_step n l i (by omega), Bool.and_eq_true, Bool.and_eq_true, decide_eq_false (by omega), Bool.false_or] at hg
    obtain ⟨⟨hr, hb⟩, hg⟩ := hg
    have hp := (rowGood_facts hr).1
    simp only [belowB, Bool.and_eq_true] at hb
    have hlen := of_decide_eq_true hb.1
    exact ih (i + 1) (by omega) (by omega) (by rw [Nat.add_sub_cancel]; omega) (by rw [Nat.add_sub_cancel]; omega) hg
theorem isDesc_short (n : Int) (l : List (List Int)) (hn : 0 ≤ n) (h : isDesc n l = true) : (l.length : Int) ≤ n := by
  unfold isDesc at h
  rcases Nat.eq_zero_or_pos l.length with h0 | h0
  · omega
  · rw [goodFrom_step n l 0 h0, Bool.and_eq_true, Bool.and_eq_true] at h
    obtain ⟨⟨hr, _⟩, hg⟩ := h
    have hf := rowGood_facts hr
    exact goodFrom_short n l (l.length - 1) 1 (by omega) (by omega) hf.1 (by rw [Nat.sub_self]; omega) hg
theorem spec_isDesc_ev (n : Int) (l : List (List Int)) (hl : rowsOk l) (hn : 0 ≤ n) : Ev (fun k => spec_dpGood.f k l n) (isDesc n l) := by
  unfold spec_dpGood.f
  by_cases h : (l.length : Int) > n
  · refine Ev.ite_pos h ?_
    have : isDesc n l = false := by
      cases hd : isDesc n l with
      | false => rfl
      | true => have := isDesc_short n l hn hd; omega
    rw [this]
    exact Ev.now _
  · exact Ev.ite_neg h (specGood_l0 n l hl l.length 0 (by omega))

end Go.Proofs.YtojohgjjlljbiaaDoor.L
