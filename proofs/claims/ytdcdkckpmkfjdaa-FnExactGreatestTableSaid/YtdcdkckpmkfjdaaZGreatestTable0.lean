/- Texts of one chain, in build order. -/
import Derived.Test.YtdcdkckpmkfjdaaLA
import Derived.Test.YtdcdkckpmkfjdaaPx103
import Derived.Test.YtdcdkckpmkfjdaaPx105
import Derived.Test.YtdcdkckpmkfjdaaProg
import Derived.Below
import Derived.Deep.Draws
import Derived.Deep.AppendLies
import Derived.Maps.AppendAt
import Derived.OwnWalk
import Derived.Laws.BytesArg
import Derived.Laws.MakeOwn
import Derived.Laws.OwnMore
import Derived.Deep.OwnRows
import Derived.Tactics
import Derived.Lib.ConvBytes
import Derived.Laws.Slices
import Derived.WalkKit
import Derived.KernelRfl
import Derived.RowKit3
import Derived.Deep.LoopGhost
import Derived.Deep.QuietTactic
import Derived.BigQuiet
import Derived.WideLaws
import Derived.Deep.DeepCutAuto
import Derived.Deep.CutBlock
import Derived.Deep.RegionHeld3
import Derived.Laws.Rows
import Derived.Lib.AppendStr
import Derived.ArgAppend
import Derived.Laws.IdiomCopy
import Derived.OrdersHeld
import Derived.Laws.BitsLemmas
import Derived.RowKit
import Derived.Shelf.Abstract
import Derived.Test.YtdcdkckpmkfjdaaWMore
import Derived.Test.YtdcdkckpmkfjdaaWTab
import Derived.Test.YtdcdkckpmkfjdaaWFour
namespace Go.Proofs.Ytdcdkckpmkfjdaa.L
open Go.RowKit Go.Proofs.Ytdcdkckpmkfjdaa Go.Proofs.Ytdcdkckpmkfjdaa.P Go.Proofs.YtdcdkckpmkfjdaaW.PrintWords Go.Proofs.YtdcdkckpmkfjdaaW.PrintLast Go.Proofs.YtdcdkckpmkfjdaaW.PrintMore

theorem l1In_eq (a b c : Int) : spec_l1In.f a b c = some (inB a b c) := by
  unfold spec_l1In.f inB
  by_cases h : a ≥ b
  · rw [if_pos h]; simp [show b ≤ a from h]
  · rw [if_neg h]; simp [show ¬ b ≤ a from h]
theorem l1All_l0 (l : List Int) (a b : Int) (hl : l.length ≤ 17592186044416) : ∀ (d i : Nat), i + d = l.length → Ev (fun k => spec_l1All.l0 k a b l l.length i) ((l.drop i).all fun x => inB x a b) := by
  intro d
  induction d with
  | zero =>
    intro i hi
    refine Ev.step (fun k => by rw [spec_l1All.l0]) ?_
    rw [List.drop_eq_nil_of_le (by omega)]
    exact Ev.ite_neg (by omega) (Ev.now _)
  | succ d ih =>
    intro i hi
    refine Ev.step (fun k => by rw [spec_l1All.l0]) ?_
    refine Ev.ite_pos (by omega) (Ev.ite_pos (by omega) (Ev.ite_pos (by omega) ?_))
    rw [l1In_eq, rd_at l i (by omega), List.drop_eq_getElem_cons (by omega), List.all_cons]
    simp only [Option.bind_some]
    cases h : inB l[i] a b with
    | true =>
      refine Ev.ite_pos rfl ?_
      rw [wrapS i (by omega), Bool.true_and]
      exact ih (i + 1) (by omega)
    | false => exact Ev.ite_neg (by simp) (Ev.now _)
theorem l1All_ev (l : List Int) (a b : Int) (hl : l.length ≤ 17592186044416) : Ev (fun k => spec_l1All.f k l a b) (l.all fun x => inB x a b) := l1All_l0 l a b hl l.length 0 (by omega)

/-- From place i on no number is greater than the one before. -/
def noninc (r : List Int) (i : Nat) : Bool := (List.range' i (r.length - i)).all fun z => decide (rd r z ≤ rd r ((z - 1 : Nat) : Int))
theorem noninc_end (r : List Int) (i : Nat) (h : r.length ≤ i) : noninc r i = true := by unfold noninc; rw [show r.length - i = 0 by omega]; rfl
theorem noninc_step (r : List Int) (i : Nat) (h : i < r.length) : noninc r i = (decide (rd r i ≤ rd r ((i - 1 : Nat) : Int)) && noninc r (i + 1)) := by
  unfold noninc
  obtain ⟨m, hm⟩ : ∃ m, r.length - i = m + 1 := ⟨r.length - i - 1, by omega⟩
  rw [hm, show r.length - (i + 1) = m by omega, List.range'_succ, List.all_cons]
/-- Parts that can be a row. -/
def rowGood (n : Int) (r : List Int) : Bool := decide (0 < r.length) && ((r.all fun x => inB x 1 n) && (decide ((r.length : Int) < rd r 0) && noninc r 1))
theorem all_rd {r : List Int} {a b : Int} (h : (r.all fun x => inB x a b) = true) (i : Nat) (hi : i < r.length) : a ≤ rd r i ∧ rd r i ≤ b := by
  rw [rd_at r i hi]
  exact (inB_iff _ _ _).1 (List.all_eq_true.1 h _ (List.getElem_mem hi))
theorem rowGood_facts {n : Int} {r : List Int} (h : rowGood n r = true) : 0 < r.length ∧ (r.length : Int) < n ∧ (r.all fun x => inB x 1 n) = true ∧ (r.length : Int) < rd r 0 := by
  simp only [rowGood, Bool.and_eq_true] at h
  have h1 := of_decide_eq_true h.1
  have h3 := of_decide_eq_true h.2.2.1
  have h2 := all_rd h.2.1 0 h1
  simp only [Int.natCast_zero] at h2
  have : rd r ((0 : Nat) : Int) = rd r 0 := rfl
  exact ⟨h1, by omega, h.2.1, h3⟩

theorem dpRow_l0 (r : List Int) (hl : r.length ≤ 17592186044416) : ∀ (d i : Nat), 1 ≤ i → r.length - i ≤ d → Ev (fun k => spec_dpRow.l0 k r i) (noninc r i) := by
  intro d
  induction d with
  | zero =>
    intro i h1 hi
    refine Ev.step (fun k => by rw [spec_dpRow.l0]) ?_
    rw [noninc_end r i (by omega)]
    exact Ev.ite_neg (by omega) (Ev.now _)
  | succ d ih =>
    intro i h1 hi
    refine Ev.step (fun k => by rw [spec_dpRow.l0]) ?_
    by_cases hlt : i < r.length
    · rw [wrapP i h1 (by omega), noninc_step r i hlt]
      refine Ev.ite_pos (by omega) (Ev.ite_pos (by omega) (Ev.ite_pos (by omega) (Ev.ite_pos (by omega) ?_)))
      by_cases hq : rd r i > rd r ((i - 1 : Nat) : Int)
      · refine Ev.ite_pos hq ?_
        rw [decide_eq_false (by omega)]
        exact Ev.now _
      · refine Ev.ite_neg hq ?_
        rw [decide_eq_true (by omega), Bool.true_and, wrapS i (by omega)]
        exact ih (i + 1) (by omega) (by omega)
    · rw [noninc_end r i (by omega)]
      exact Ev.ite_neg (by omega) (Ev.now _)
theorem dpRow_j0 (r : List Int) (b : Bool) (hl : r.length ≤ 17592186044416) : Ev (fun k => spec_dpRow.j0 k r b) (!b && noninc r 1) := by
  refine Ev.step (fun k => by rw [spec_dpRow.j0]) ?_
  cases b with
  | true => exact Ev.ite_pos rfl (Ev.now _)
  | false => exact Ev.ite_neg (by simp) (dpRow_l0 r hl r.length 1 (by omega) (by omega))
theorem dpRow_ev (r : List Int) (n : Int) (hl : r.length ≤ 17592186044416) : Ev (fun k => spec_dpRow.f k r n) (rowGood n r) := by
  unfold spec_dpRow.f
  by_cases h0 : (r.length : Int) = 0
  · refine Ev.ite_pos h0 ?_
    have : rowGood n r = false := by unfold rowGood; rw [decide_eq_false (by omega)]; rfl
    rw [this]
    exact dpRow_j0 r true hl
  · refine Ev.ite_neg h0 ?_
    by_cases h1 : (r.length : Int) ≥ n
    · refine Ev.ite_pos h1 ?_
      have : rowGood n r = false := by
        cases hg : rowGood n r with
        | false => rfl
        | true => have := (rowGood_facts hg).2.1; omega
      rw [this]
      exact dpRow_j0 r true hl
    · refine Ev.ite_neg h1 (Ev.bind (l1All_ev r 1 n hl) ?_)
      unfold rowGood
      rw [decide_eq_true (show 0 < r.length by omega), Bool.true_and]
      cases h2 : (r.all fun x => inB x 1 n) with
      | false => exact Ev.ite_neg (by simp) (dpRow_j0 r true hl)
      | true =>
        refine Ev.ite_pos rfl (Ev.ite_pos (by omega) ?_)
        have := dpRow_j0 r (decide (rd r 0 ≤ (r.length : Int))) hl
        rw [show (!decide (rd r 0 ≤ (r.length : Int))) = decide ((r.length : Int) < rd r 0) from by by_cases hq : rd r 0 ≤ (r.length : Int) <;> simp [hq] <;> omega] at this
        rw [Bool.true_and]
        exact this
theorem descRow_l0 (r : List Int) (n : Int) (hl : r.length ≤ 17592186044416) : ∀ (d i : Nat), 1 ≤ i → r.length - i ≤ d → Ev (fun k => impl_isDescendedRow.l0 k r n i) (noninc r i && (decide (0 < r.length) && ((r.all fun x => inB x 1 n) && decide ((r.length : Int) < rd r 0)))) := by
  have fin : ∀ i, 1 ≤ i → r.length ≤ i → Ev (fun k => impl_isDescendedRow.l0 k r n i) (noninc r i && (decide (0 < r.length) && ((r.all fun x => inB x 1 n) && decide ((r.length : Int) < rd r 0)))) := by
    intro i h1 hi
    refine Ev.step (fun k => by rw [impl_isDescendedRow.l0]) ?_
    rw [noninc_end r i hi, Bool.true_and]
    refine Ev.ite_neg (by omega) ?_
    by_cases h0 : (r.length : Int) > 0
    · refine Ev.ite_pos h0 (Ev.some_bind rfl ?_)
      rw [decide_eq_true (show 0 < r.length by omega), Bool.true_and]
      cases h2 : (r.all fun x => inB x 1 n) with
      | false => exact Ev.ite_neg (by simp) (Ev.now _)
      | true => exact Ev.ite_pos rfl (Ev.ite_pos (by omega) (Ev.now _))
    · refine Ev.ite_neg h0 ?_
      rw [decide_eq_false (show ¬ 0 < r.length by omega)]
      exact Ev.now _
  intro d
  induction d with
  | zero => intro i h1 hi; exact fin i h1 (by omega)
  | succ d ih =>
    intro i h1 hi
    by_cases hlt : i < r.length
    · refine Ev.step (fun k => by rw [impl_isDescendedRow.l0]) ?_
      rw [wrapP i h1 (by omega), noninc_step r i hlt]
      refine Ev.ite_pos (by omega) (Ev.ite_pos (by omega) (Ev.ite_pos (by omega) (Ev.ite_pos (by omega) ?_)))
      by_cases hq : rd r i > rd r ((i - 1 : Nat) : Int)
      · refine Ev.ite_pos hq ?_
        rw [decide_eq_false (show ¬ rd r i ≤ rd r ((i - 1 : Nat) : Int) by omega)]
        exact Ev.now _
      · refine Ev.ite_neg hq ?_
        rw [decide_eq_true (show rd r i ≤ rd r ((i - 1 : Nat) : Int) by omega), Bool.true_and, wrapS i (by omega)]
        exact ih (i + 1) (by omega) (by omega)
    · exact fin i h1 (by omega)
theorem descRow_ev (r : List Int) (n : Int) (hl : r.length ≤ 17592186044416) : Ev (fun k => impl_isDescendedRow.f k r n) (rowGood n r) := by
  unfold impl_isDescendedRow.f
  have h := descRow_l0 r n hl r.length 1 (by omega) (by omega)
  have e : (noninc r 1 && (decide (0 < r.length) && ((r.all fun x => inB x 1 n) && decide ((r.length : Int) < rd r 0)))) = rowGood n r := by
    unfold rowGood
    cases noninc r 1 <;> cases decide (0 < r.length) <;> cases (r.all fun x => inB x 1 n) <;> simp
  rw [e] at h
  exact h

/-- From place i on each number is less than the one above and to the right. -/
def under (a r : List Int) (i : Nat) : Bool := (List.range' i (r.length - i)).all fun z => decide (rd r z < rd a ((z + 1 : Nat) : Int))
theorem under_end (a r : List Int) (i : Nat) (h : r.length ≤ i) : under a r i = true := by unfold under; rw [show r.length - i = 0 by omega]; rfl
theorem under_step (a r : List Int) (i : Nat) (h : i < r.length) : under a r i = (decide (rd r i < rd a ((i + 1 : Nat) : Int)) && under a r (i + 1)) := by
  unfold under
  obtain ⟨m, hm⟩ : ∃ m, r.length - i = m + 1 := ⟨r.length - i - 1, by omega⟩
  rw [hm, show r.length - (i + 1) = m by omega, List.range'_succ, List.all_cons]
/-- Row r can stand below row a. -/
def belowB (a r : List Int) : Bool := decide (r.length < a.length) && (decide (rd r 0 ≤ (a.length : Int)) && under a r 0)

theorem dpBelow_l0 (a r : List Int) (hl : r.length ≤ 17592186044416) (hlt : r.length < a.length) : ∀ (d i : Nat), i + d = r.length → Ev (fun k => spec_dpBelow.l0 k a r r.length i) (under a r i) := by
  intro d
  induction d with
  | zero =>
    intro i hi
    refine Ev.step (fun k => by rw [spec_dpBelow.l0]) ?_
    rw [under_end a r i (by omega)]
    exact Ev.ite_neg (by omega) (Ev.now _)
  | succ d ih =>
    intro i hi
    refine Ev.step (fun k => by rw [spec_dpBelow.l0]) ?_
    rw [wrapS i (by omega), under_step a r i (by omega)]
    refine Ev.ite_pos (by omega) (Ev.ite_pos (by omega) (Ev.ite_pos (by omega) (Ev.ite_pos (by omega) (Ev.ite_pos (by omega) ?_))))
    by_cases hq : rd r i ≥ rd a ((i + 1 : Nat) : Int)
    · refine Ev.ite_pos hq ?_
      rw [decide_eq_false (by omega)]
      exact Ev.now _
    · refine Ev.ite_neg hq ?_
      rw [decide_eq_true (by omega), Bool.true_and]
      exact ih (i + 1) (by omega)

theorem stands_l0 (a r : List Int) (hl : r.length ≤ 17592186044416) (hlt : r.length < a.length) : ∀ (d i : Nat), i + d = r.length → Ev (fun k => impl_standsBelow.l0 k a r r.length i) (under a r i) := by
  intro d
  induction d with
  | zero =>
    intro i hi
    refine Ev.step (fun k => by rw [impl_standsBelow.l0]) ?_
    rw [under_end a r i (by omega)]
    exact Ev.ite_neg (by omega) (Ev.now _)
  | succ d ih =>
    intro i hi
    refine Ev.step (fun k => by rw [impl_standsBelow.l0]) ?_
    rw [wrapS i (by omega), under_step a r i (by omega)]
    refine Ev.ite_pos (by omega) (Ev.ite_pos (by omega) (Ev.ite_pos (by omega) (Ev.ite_pos (by omega) (Ev.ite_pos (by omega) ?_))))
    by_cases hq : rd r i ≥ rd a ((i + 1 : Nat) : Int)
    · refine Ev.ite_pos hq ?_
      rw [decide_eq_false (by omega)]
      exact Ev.now _
    · refine Ev.ite_neg hq ?_
      rw [decide_eq_true (by omega), Bool.true_and]
      exact ih (i + 1) (by omega)

theorem dpBelow_ev (a r : List Int) (hl : r.length ≤ 17592186044416) (h0 : 0 < r.length) : Ev (fun k => spec_dpBelow.f k r a) (belowB a r) := by
  have j : ∀ b : Bool, (b = false → r.length < a.length) → Ev (fun k => spec_dpBelow.j0 k r a b) (!b && under a r 0) := by
    intro b hb
    refine Ev.step (fun k => by rw [spec_dpBelow.j0]) ?_
    cases b with
    | true => exact Ev.ite_pos rfl (Ev.now _)
    | false => exact Ev.ite_neg (by simp) (dpBelow_l0 a r hl (hb rfl) r.length 0 (by omega))
  unfold spec_dpBelow.f belowB
  by_cases h1 : (r.length : Int) ≥ (a.length : Int)
  · refine Ev.ite_pos h1 ?_
    rw [decide_eq_false (show ¬ r.length < a.length by omega)]
    exact j true (by simp)
  · refine Ev.ite_neg h1 (Ev.ite_pos (by omega) ?_)
    rw [decide_eq_true (show r.length < a.length by omega), Bool.true_and]
    have := j (decide (rd r 0 > (a.length : Int))) (fun _ => by omega)
    rw [show (!decide (rd r 0 > (a.length : Int))) = decide (rd r 0 ≤ (a.length : Int)) from by by_cases hq : rd r 0 ≤ (a.length : Int) <;> simp [hq] <;> omega] at this
    exact this
theorem stands_ev (a r : List Int) (hl : r.length ≤ 17592186044416) (h0 : 0 < r.length) : Ev (fun k => impl_standsBelow.f k a r) (belowB a r) := by
  have j : ∀ b : Bool, (b = false → r.length < a.length) → Ev (fun k => impl_standsBelow.j0 k a r b) (!b && under a r 0) := by
    intro b hb
    refine Ev.step (fun k => by rw [impl_standsBelow.j0]) ?_
    cases b with
    | true => exact Ev.ite_pos rfl (Ev.now _)
    | false => exact Ev.ite_neg (by simp) (stands_l0 a r hl (hb rfl) r.length 0 (by omega))
  unfold impl_standsBelow.f belowB
  refine Ev.ite_pos (by omega) ?_
  by_cases h1 : rd r 0 > (a.length : Int)
  · refine Ev.ite_pos h1 ?_
    rw [decide_eq_false (show ¬ rd r 0 ≤ (a.length : Int) by omega), Bool.false_and, Bool.and_false]
    exact j true (by simp)
  · refine Ev.ite_neg h1 ?_
    rw [decide_eq_true (show rd r 0 ≤ (a.length : Int) by omega), Bool.true_and]
    have := j (decide ((r.length : Int) ≥ (a.length : Int))) (fun h => by have := of_decide_eq_false h; omega)
    rw [show (!decide ((r.length : Int) ≥ (a.length : Int))) = decide (r.length < a.length) from by by_cases hq : r.length < a.length <;> simp [hq] <;> omega] at this
    exact this

/-- From row i on all rows are right. -/
def goodFrom (n : Int) (l : List (List Int)) (i : Nat) : Bool := (List.range' i (l.length - i)).all fun z => rowGood n (l.getD z []) && (decide (z = 0) || belowB (l.getD (z - 1) []) (l.getD z []))
theorem goodFrom_end (n : Int) (l : List (List Int)) (i : Nat) (h : l.length ≤ i) : goodFrom n l i = true := by unfold goodFrom; rw [show l.length - i = 0 by omega]; rfl
theorem goodFrom_step (n : Int) (l : List (List Int)) (i : Nat) (h : i < l.length) : goodFrom n l i = ((rowGood n (l.getD i []) && (decide (i = 0) || belowB (l.getD (i - 1) []) (l.getD i []))) && goodFrom n l (i + 1)) := by
  unfold goodFrom
  obtain ⟨m, hm⟩ : ∃ m, l.length - i = m + 1 := ⟨l.length - i - 1, by omega⟩
  rw [hm, show l.length - (i + 1) = m by omega, List.range'_succ, List.all_cons]
/-- The rows are a descending plane partition for n. -/
def isDesc (n : Int) (l : List (List Int)) : Bool := goodFrom n l 0

theorem specGood_l0 (n : Int) (l : List (List Int)) (hl : rowsOk l) : ∀ (d i : Nat), i + d = l.length → Ev (fun k => spec_dpGood.l0 k l n l l.length i) (goodFrom n l i) := by
  have hl1 := hl.1
  intro d
  induction d with
  | zero =>
    intro i hi
    refine Ev.step (fun k => by rw [spec_dpGood.l0]) ?_
    rw [goodFrom_end n l i (by omega)]
    exact Ev.ite_neg (by omega) (Ev.now _)
  | succ d ih =>
    intro i hi
    refine Ev.step (fun k => by rw [spec_dpGood.l0]) ?_
    rw [goodFrom_step n l i (by omega), wrapS i (by omega), rd1_get]
    refine Ev.ite_pos (by omega) (Ev.ite_pos (by omega) (Ev.ite_pos (by omega) (Ev.bind (dpRow_ev (l.getD i []) n (hl.at_ i)) ?_)))
    cases hg : rowGood n (l.getD i []) with
    | false => exact Ev.ite_neg (by simp) (Ev.now _)
    | true =>
      refine Ev.ite_pos rfl ?_
      by_cases h0 : i = 0
      · subst h0
        refine Ev.ite_neg (by omega) ?_
        simp only [decide_true, Bool.true_or, Bool.true_and]
        exact ih (0 + 1) (by omega)
      · refine Ev.ite_pos (by omega) ?_
        rw [wrapP i (by omega) (by omega), rd1_get]
        refine Ev.ite_pos (by omega) (Ev.ite_pos (by omega) (Ev.bind (dpBelow_ev (l.getD (i - 1) []) (l.getD i []) (hl.at_ i) (rowGood_facts hg).1) ?_))
        rw [decide_eq_false h0, Bool.false_or, Bool.true_and]
        cases hb : belowB (l.getD (i - 1) []) (l.getD i []) with
        | false => exact Ev.ite_neg (by simp) (Ev.now _)
        | true =>
          refine Ev.ite_pos rfl ?_
          rw [Bool.true_and]
          exact ih (i + 1) (by omega)

theorem implGood_l0 (n : Int) (l : List (List Int)) (hl : rowsOk l) : ∀ (d i : Nat), i + d = l.length → Ev (fun k => impl_isDescending.l0 k l n l l.length i) (goodFrom n l i) := by
  have hl1 := hl.1
  intro d
  induction d with
  | zero =>
    intro i hi
    refine Ev.step (fun k => by rw [impl_isDescending.l0]) ?_
    rw [goodFrom_end n l i (by omega)]
    exact Ev.ite_neg (by omega) (Ev.now _)
  | succ d ih =>
    intro i hi
    refine Ev.step (fun k => by rw [impl_isDescending.l0]) ?_
    rw [goodFrom_step n l i (by omega), wrapS i (by omega), rd1_get]
    refine Ev.ite_pos (by omega) (Ev.ite_pos (by omega) (Ev.ite_pos (by omega) (Ev.bind (descRow_ev (l.getD i []) n (hl.at_ i)) ?_)))
    cases hg : rowGood n (l.getD i []) with
    | false => exact Ev.ite_neg (by simp) (Ev.now _)
    | true =>
      refine Ev.ite_pos rfl ?_
      by_cases h0 : i = 0
      · subst h0
        refine Ev.ite_neg (by omega) ?_
        simp only [decide_true, Bool.true_or, Bool.true_and]
        exact ih (0 + 1) (by omega)
      · refine Ev.ite_pos (by omega) ?_
        rw [wrapP i (by omega) (by omega), rd1_get]
        refine Ev.ite_pos (by omega) (Ev.ite_pos (by omega) (Ev.bind (stands_ev (l.getD (i - 1) []) (l.getD i []) (hl.at_ i) (rowGood_facts hg).1) ?_))
        rw [decide_eq_false h0, Bool.false_or, Bool.true_and]
        cases hb : belowB (l.getD (i - 1) []) (l.getD i []) with
        | false => exact Ev.ite_neg (by simp) (Ev.now _)
        | true =>
          refine Ev.ite_pos rfl ?_
          rw [Bool.true_and]
          exact ih (i + 1) (by omega)

theorem impl_isDesc_ev (n : Int) (l : List (List Int)) (hl : rowsOk l) : Ev (fun k => impl_isDescending.f k l n) (isDesc n l) := implGood_l0 n l hl l.length 0 (by omega)
theorem goodFrom_short (n : Int) (l : List (List Int)) : ∀ (d i : Nat), i + d = l.length → 1 ≤ i → 1 ≤ (l.getD (i - 1) []).length → ((l.getD (i - 1) []).length : Int) + i ≤ n → goodFrom n l i = true → (l.length : Int) ≤ n := by
  intro d
  induction d with
  | zero => intro i hi _ h1 h2 _; omega
  | succ d ih =>
    intro i hi h1 h2 h3 hg
    rw [goodFrom_step n l i (by omega), Bool.and_eq_true, Bool.and_eq_true, decide_eq_false (by omega), Bool.false_or] at hg
    obtain ⟨⟨hr, hb⟩, hg⟩ := hg
    have hp := (rowGood_facts hr).1
    simp only [belowB, Bool.and_eq_true] at hb
    have hlen := of_decide_eq_true hb.1
    exact ih (i + 1) (by omega) (by omega) (by rw [Nat.add_sub_cancel]; omega) (by rw [Nat.add_sub_cancel]; omega) hg
theorem isDesc_short (n : Int) (l : List (List Int)) (hn : 0 ≤ n) (h : isDesc n l = true) : (l.length : Int) ≤ n := by
  unfold isDesc at h
  rcases Nat.eq_zero_or_pos l.length with h0 | h0
  · omega
  · rw [goodFrom_step n l 0 h0, Bool.and_eq_true, Bool.and_eq_true] at h
    obtain ⟨⟨hr, _⟩, hg⟩ := h
    have hf := rowGood_facts hr
    exact goodFrom_short n l (l.length - 1) 1 (by omega) (by omega) hf.1 (by rw [Nat.sub_self]; omega) hg
theorem spec_isDesc_ev (n : Int) (l : List (List Int)) (hl : rowsOk l) (hn : 0 ≤ n) : Ev (fun k => spec_dpGood.f k l n) (isDesc n l) := by
  unfold spec_dpGood.f
  by_cases h : (l.length : Int) > n
  · refine Ev.ite_pos h ?_
    have : isDesc n l = false := by
      cases hd : isDesc n l with
      | false => rfl
      | true => have := isDesc_short n l hn hd; omega
    rw [this]
    exact Ev.now _
  · exact Ev.ite_neg h (specGood_l0 n l hl l.length 0 (by omega))

end Go.Proofs.Ytdcdkckpmkfjdaa.L

namespace Go.Proofs.Ytdcdkckpmkfjdaa
open Go.RowKit Go.Proofs.Ytdcdkckpmkfjdaa.P Go.Proofs.Ytdcdkckpmkfjdaa.L Go.Proofs.YtdcdkckpmkfjdaaW.PrintWords Go.Proofs.YtdcdkckpmkfjdaaW.PrintLast Go.Proofs.YtdcdkckpmkfjdaaW.PrintMore
set_option linter.unusedVariables false
set_option linter.unusedSimpArgs false

theorem impl_isDescending.calls' (A0 : Option Addr) (c0 : Nat) (l0 : List (List Int)) (n : Int) (w : World) (hr0 : Kd.C (Kd.slice 3 (Kd.int .i64)) w A0 l0.length l0) (hc0 : l0.length ≤ c0) (hl : rowsOk l0) :
    Calls Try.prog 105 #[.slice A0 l0.length c0, .int .i64 n] w fun e w' => e = .returned (.bool (isDesc n l0)) ∧ Below w.heap.size w w' := by
  obtain ⟨k, hk⟩ := (impl_isDesc_ev n l0 hl).rounds
  exact impl_isDescending.calls k A0 c0 l0 n (isDesc n l0) w hr0 hc0 hk

theorem goodFrom_row (n : Int) (l : List (List Int)) (h : goodFrom n l 0 = true) (i : Nat) (hi : i < l.length) : rowGood n (l.getD i []) = true := by
  have := List.all_eq_true.1 h i (by rw [List.mem_range'_1]; omega)
  simp only [Bool.and_eq_true] at this
  exact this.1
def bitI (b : Bool) : Int := if b then 1 else 0
theorem impl_bit.calls' (b : Bool) (w : World) :
    Calls Try.prog 143 #[.bool b] w fun e w' => e = .returned (.int .i64 (bitI b)) ∧ w = w' := by
  cases b with
  | true =>
    go_enter Try.func143, Try.ntmps143
    go_wp2
    go_ret
    exact ⟨rfl, rfl⟩
  | false =>
    go_enter Try.func143, Try.ntmps143
    go_wp2
    go_ret
    exact ⟨rfl, rfl⟩

/-- How many of the first j numbers are such. -/
def cnt (p : Int → Int → Bool) (r : List Int) : Nat → Int
  | 0 => 0
  | j + 1 => cnt p r j + bitI (p (rd r j) j)
def cntAll (p : Int → Int → Bool) (l : List (List Int)) : Nat → Int
  | 0 => 0
  | i + 1 => cntAll p l i + cnt p (l.getD i []) (l.getD i []).length
theorem bitI_le (b : Bool) : 0 ≤ bitI b ∧ bitI b ≤ 1 := by cases b <;> decide
theorem cnt_le (p : Int → Int → Bool) (r : List Int) : ∀ j : Nat, 0 ≤ cnt p r j ∧ cnt p r j ≤ j := by
  intro j
  induction j with
  | zero => exact ⟨Int.le_refl _, Int.le_refl _⟩
  | succ j ih => have := bitI_le (p (rd r j) j); rw [cnt]; omega
theorem cntAll_le (p : Int → Int → Bool) (l : List (List Int)) (hb : ∀ i, i < l.length → (l.getD i []).length ≤ 100) : ∀ i : Nat, i ≤ l.length → 0 ≤ cntAll p l i ∧ cntAll p l i ≤ 100 * i := by
  intro i
  induction i with
  | zero => intro _; exact ⟨Int.le_refl _, Int.le_refl _⟩
  | succ i ih =>
    intro hi
    have := ih (by omega)
    have := cnt_le p (l.getD i []) (l.getD i []).length
    have := hb i (by omega)
    rw [cntAll]; omega

def RetCount (w : World) (l : List (List Int)) (p : Int → Int → Bool) (e : Ending) (w' : World) : Prop :=
  e = .returned (.tuple #[.int .i64 (if isDesc 6 l = true then cntAll p l l.length else 0), .bool (isDesc 6 l)]) ∧ Below w.heap.size w w'
set_option maxHeartbeats 4000000 in
theorem impl_countParts.callsG (g : Nat) (lb : Array Value) (p : Int → Int → Bool) (A0 : Option Addr) (c0 : Nat) (l0 : List (List Int)) (w : World)
    (eg : ∀ args w, (callFunc g args).run Try.prog w = .ok (.enter g args) w)
    (hp : ∀ (x i : Int) (W : World), Below w.heap.size w W → Gives Try.prog g (#[.int .i64 x, .int .i64 i] ++ lb) W (.bool (p x i)))
    (hr0 : Kd.C (Kd.slice 3 (Kd.int .i64)) w A0 l0.length l0) (hc0 : l0.length ≤ c0) (hl : rowsOk l0) :
    Calls Try.prog 126 #[.slice A0 l0.length c0, .func (.func g) #[] lb] w (RetCount w l0 p) := by
  have hl1 := hl.1
  have HL := Aside0.mk hl
  have HR0 := Aside0.mk hr0
  have HP := Aside0.mk hp
  have hdesc := impl_isDescending.calls' A0 c0 l0 6 w hr0 hc0 hl
  clear hr0 hp hl
  cases hd : isDesc 6 l0 with
  | false =>
    rw [hd] at hdesc
    have HD := Aside0.mk hd
    clear hd
    go_enter Try.func126, Try.ntmps126
    go_wp2_with (go_at_call 105; refine hdesc.mono ?_; rintro e w' ⟨rfl, hb⟩)
    go_ret2
    exact ⟨by rw [HD.out]; rfl, hb⟩
  | true =>
    rw [hd] at hdesc
    have HD := Aside0.mk hd
    have hb100 : ∀ i, i < l0.length → (l0.getD i []).length ≤ 100 := fun i hi => by have := (rowGood_facts (goodFrom_row 6 l0 hd i hi)).2.1; omega
    have hlen : l0.length ≤ 6 := by have := isDesc_short 6 l0 (by omega) hd; omega
    have HB100 := Aside0.mk hb100
    clear hd hb100
    go_enter Try.func126, Try.ntmps126
    go_wp2_with (go_at_call 105; refine hdesc.mono ?_; rintro e w1 ⟨rfl, hb⟩; have HB1 := Aside0.mk hb; clear hb)
    go_loopg [6, 8, 9, 10, 16] l0.length (fun gg s6 s8 s9 s10 s16 wr => ∃ i : Nat, i ≤ l0.length ∧ l0.length - i ≤ gg ∧ s16 = .int .i64 i ∧ s6 = .int .i64 (cntAll p l0 i) ∧ Aside0 (Below w.heap.size w wr))
    case atStart => exact ⟨0, Nat.zero_le _, Nat.le_refl _, rfl, rfl, HB1⟩
    case round =>
      clear HB1
      obtain ⟨i, hi, hg, rfl, rfl, HB⟩ := hrel
      by_cases hlt : i < l0.length
      · have hlz : (i : Int) < (l0.length : Int) := by omega
        obtain ⟨ad, A1, c1, e0, hx, hc1, hrow⟩ := rowsAt HR0.out i hlt
        cases e0
        replace hx := pw_cell_below HB.out hx
        have hca := cntAll_le p l0 HB100.out i (by omega)
        have hcs : cntAll p l0 (i + 1) = cntAll p l0 i + cnt p (l0.getD i []) (l0.getD i []).length := rfl
        have hb1 := HB100.out i hlt
        obtain ⟨row, hrw⟩ : ∃ r, r = l0.getD i [] := ⟨_, rfl⟩
        rw [← hrw] at hx hrow hcs hb1
        obtain ⟨ca, hcae⟩ : ∃ c, c = cntAll p l0 i := ⟨_, rfl⟩
        rw [← hcae] at hca hcs ⊢
        have HCS := Aside0.mk hcs
        have HROW := Aside0.mk hrow
        clear hrw hrow hc1 hcs hcae
        go_wp2
        go_loopg [6, 9, 10, 22] row.length (fun gj s6 s9 s10 s22 wr2 => ∃ j : Nat, j ≤ row.length ∧ row.length - j ≤ gj ∧ s22 = .int .i64 j ∧ s6 = .int .i64 (ca + cnt p row j) ∧ Aside0 (Below w.heap.size w wr2))
        case atStart => exact ⟨0, Nat.zero_le _, Nat.le_refl _, rfl, by simp [cnt], HB⟩
        case round =>
          clear hx HB
          obtain ⟨j, hj, hgj, rfl, rfl, HB⟩ := hrel
          have hcn := cnt_le p row j
          by_cases hjt : j < row.length
          · have hjz : (j : Int) < (row.length : Int) := by omega
            obtain ⟨ad2, e2, hx2⟩ := Kd.at_int HROW.out j (by omega) hjz
            cases e2
            replace hx2 := pw_cell_below HB.out hx2
            simp only [Int.toNat_natCast] at hx2
            have hbt := bitI_le (p (rd row j) j)
            have hst : ca + cnt p row (j + 1) = ca + cnt p row j + bitI (p (rd row j) j) := by rw [cnt]; omega
            have HST := Aside0.mk hst
            clear hst
            have hcall := fun W hb => HP.out (rd row j) j W hb
            go_wp2_with (first | (go_at_fn g; refine (hcall _ HB.out).mono ?_; rintro e w' ⟨rfl, hb⟩; have HB2 := Aside0.mk (below_step HB.out hb); clear hb) | (go_at_call 143; refine (impl_bit.calls' _ _).mono ?_; rintro e w' ⟨rfl, rfl⟩))
            go_roundg (row.length - (j + 1))
            case measure => omega
            case rel => exact ⟨j + 1, by omega, by omega, by go_num, by rw [HST.out], HB2⟩
          · have hjz : ¬ (j : Int) < (row.length : Int) := by omega
            have hjr : j = row.length := by omega
            subst hjr
            go_wp2
            go_roundg (l0.length - (i + 1))
            case measure => omega
            case rel => exact ⟨i + 1, by omega, by omega, by go_num, by rw [HCS.out], HB⟩
      · have hlz : ¬ (i : Int) < (l0.length : Int) := by omega
        have hil : i = l0.length := by omega
        subst hil
        go_wp2
        go_ret2
        exact ⟨by rw [HD.out]; rfl, HB.out⟩


theorem PartsOf_1.calls (x i : Int) (W : World) : Gives Try.prog 127 #[.int .i64 x, .int .i64 i] W (.bool true) := by
  unfold Gives
  go_enter Try.func127, Try.ntmps127
  go_wp2
  go_ret
  exact ⟨rfl, Below.refl _ _⟩
theorem SpecialParts_1.calls (x i : Int) (W : World) : Gives Try.prog 128 #[.int .i64 x, .int .i64 i] W (.bool (decide (x ≤ i))) := by
  unfold Gives
  go_enter Try.func128, Try.ntmps128
  go_wp2
  go_ret
  exact ⟨rfl, Below.refl _ _⟩
theorem PartsEqual_1.calls (x i n : Int) (b : Nat) (W : World) (h : W.cell? ⟨b, 0, none⟩ = some (.int .i64 n)) : Gives Try.prog 137 #[.int .i64 x, .int .i64 i, .pointer (some ⟨b, 0, none⟩)] W (.bool (x == n)) := by
  unfold Gives
  go_enter Try.func137, Try.ntmps137
  go_wp2
  go_ret
  exact ⟨rfl, Below.refl _ _⟩

def rowsOkB (l : List (List Int)) : Bool := decide (l.length ≤ 11728124029610) && (l.all fun r => decide (r.length ≤ 17592186044416))
theorem rowsOkB_iff (l : List (List Int)) : rowsOkB l = true ↔ rowsOk l := by
  simp only [rowsOkB, Bool.and_eq_true, decide_eq_true_eq, List.all_eq_true, rowsOk]
def countF (p : Int → Int → Bool) (l : List (List Int)) : Int × Bool := (if isDesc 6 l = true then cntAll p l l.length else 0, isDesc 6 l)

def impl_PartsOf.f (l0 : List (List Int)) : Option (Int × Bool) := if rowsOkB l0 = true then some (countF (fun _ _ => true) l0) else none
theorem impl_PartsOf.calls (A0 : Option Addr) (c0 : Nat) (l0 : List (List Int)) (r1 : Int) (r2 : Bool) (w : World) (hr0 : Kd.C (Kd.slice 3 (Kd.int .i64)) w A0 l0.length l0) (hc0 : l0.length ≤ c0) (h : impl_PartsOf.f l0 = some (r1, r2)) :
    Calls Try.prog 90 #[.slice A0 l0.length c0] w fun e w' => e = .returned (.tuple #[.int .i64 r1, .bool r2]) ∧ Below w.heap.size w w' := by
  unfold impl_PartsOf.f at h
  by_cases hl : rowsOkB l0 = true
  · rw [if_pos hl] at h
    have h := Option.some.inj h
    have hcon := impl_countParts.callsG 127 #[] (fun _ _ => true) A0 c0 l0 w (enters_of Try.func127 (by kernel_rfl) rfl) (fun x i W _ => PartsOf_1.calls x i W) hr0 hc0 ((rowsOkB_iff l0).1 hl)
    unfold RetCount at hcon
    change countF _ l0 = _ at h
    obtain ⟨e1, e2⟩ := Prod.mk.inj h
    rw [e1, e2] at hcon
    clear e1 e2 h hr0 hl
    go_enter Try.func90, Try.ntmps90
    go_wp2_with (go_at_call 126; refine hcon.mono ?_; rintro e w' ⟨rfl, hb⟩)
    go_ret2
    exact ⟨rfl, hb⟩
  · rw [if_neg hl] at h
    cases h
def impl_SpecialParts.f (l0 : List (List Int)) : Option (Int × Bool) := if rowsOkB l0 = true then some (countF (fun x i => decide (x ≤ i)) l0) else none
theorem impl_SpecialParts.calls (A0 : Option Addr) (c0 : Nat) (l0 : List (List Int)) (r1 : Int) (r2 : Bool) (w : World) (hr0 : Kd.C (Kd.slice 3 (Kd.int .i64)) w A0 l0.length l0) (hc0 : l0.length ≤ c0) (h : impl_SpecialParts.f l0 = some (r1, r2)) :
    Calls Try.prog 91 #[.slice A0 l0.length c0] w fun e w' => e = .returned (.tuple #[.int .i64 r1, .bool r2]) ∧ Below w.heap.size w w' := by
  unfold impl_SpecialParts.f at h
  by_cases hl : rowsOkB l0 = true
  · rw [if_pos hl] at h
    have h := Option.some.inj h
    have hcon := impl_countParts.callsG 128 #[] (fun x i => decide (x ≤ i)) A0 c0 l0 w (enters_of Try.func128 (by kernel_rfl) rfl) (fun x i W _ => SpecialParts_1.calls x i W) hr0 hc0 ((rowsOkB_iff l0).1 hl)
    unfold RetCount at hcon
    change countF _ l0 = _ at h
    obtain ⟨e1, e2⟩ := Prod.mk.inj h
    rw [e1, e2] at hcon
    clear e1 e2 h hr0 hl
    go_enter Try.func91, Try.ntmps91
    go_wp2_with (go_at_call 126; refine hcon.mono ?_; rintro e w' ⟨rfl, hb⟩)
    go_ret2
    exact ⟨rfl, hb⟩
  · rw [if_neg hl] at h
    cases h
def impl_PartsEqual.f (l0 : List (List Int)) (a1 : Int) : Option (Int × Bool) := if rowsOkB l0 = true then some (if inB a1 2 6 = true then countF (fun x _ => x == a1) l0 else (0, false)) else none
theorem impl_PartsEqual.calls (A0 : Option Addr) (c0 : Nat) (l0 : List (List Int)) (a1 : Int) (r1 : Int) (r2 : Bool) (w : World) (hr0 : Kd.C (Kd.slice 3 (Kd.int .i64)) w A0 l0.length l0) (hc0 : l0.length ≤ c0) (h : impl_PartsEqual.f l0 a1 = some (r1, r2)) :
    Calls Try.prog 101 #[.slice A0 l0.length c0, .int .i64 a1] w fun e w' => e = .returned (.tuple #[.int .i64 r1, .bool r2]) ∧ Below w.heap.size w w' := by
  unfold impl_PartsEqual.f at h
  by_cases hl : rowsOkB l0 = true
  · rw [if_pos hl] at h
    have h := Option.some.inj h
    have hB1 : Below w.heap.size w (w.alloc (.cells #[.int .i64 a1] 3)) := below_alloc (Below.refl _ _) _
    have hx1 : (w.alloc (.cells #[.int .i64 a1] 3)).cell? ⟨w.heap.size, 0, none⟩ = some (.int .i64 a1) := by rw [World.cell?_alloc_at _ _ _ _ rfl]; rfl
    have hcon : ∀ W, Below (w.alloc (.cells #[.int .i64 a1] 3)).heap.size (w.alloc (.cells #[.int .i64 a1] 3)) W → Calls Try.prog 126 #[.slice A0 l0.length c0, .func (.func 137) #[] #[.pointer (some ⟨w.heap.size, 0, none⟩)]] W (RetCount W l0 (fun x _ => x == a1)) := fun W hW =>
      impl_countParts.callsG 137 #[.pointer (some ⟨w.heap.size, 0, none⟩)] (fun x _ => x == a1) A0 c0 l0 W (enters_of Try.func137 (by kernel_rfl) rfl) (fun x i W' hb => PartsEqual_1.calls x i a1 _ W' (pw_cell_below hb (pw_cell_below hW hx1))) (Kd.C_below (Kd.C_below hr0 hB1) hW) hc0 ((rowsOkB_iff l0).1 hl)
    have HB := Aside0.mk hB1
    cases hi : inB a1 2 6 with
    | false =>
      rw [hi, if_neg (by simp)] at h
      obtain ⟨rfl, rfl⟩ := Prod.mk.inj h
      clear hcon hr0 hl h hB1
      have hw := fun W => impl_within.calls a1 2 6 false W (by unfold impl_within.f; rw [hi])
      clear hi
      go_enter Try.func101, Try.ntmps101
      go_wp2_with (go_at_call 93; refine (hw _).mono ?_; rintro e w' ⟨rfl, hd⟩; have hb := hd.below; clear hd)
      go_ret2
      exact ⟨rfl, below_step HB.out hb⟩
    | true =>
      rw [hi, if_pos rfl] at h
      change countF _ l0 = _ at h
      obtain ⟨e1, e2⟩ := Prod.mk.inj h
      have hcon2 : ∀ W, Below (w.alloc (.cells #[.int .i64 a1] 3)).heap.size (w.alloc (.cells #[.int .i64 a1] 3)) W → Calls Try.prog 126 #[.slice A0 l0.length c0, .func (.func 137) #[] #[.pointer (some ⟨w.heap.size, 0, none⟩)]] W fun e w' => e = .returned (.tuple #[.int .i64 r1, .bool r2]) ∧ Below W.heap.size W w' := fun W hW => by
        have := hcon W hW
        unfold RetCount at this
        rw [e1, e2] at this
        exact this
      clear hcon hr0 hl h hB1 e1 e2
      have hw := fun W => impl_within.calls a1 2 6 true W (by unfold impl_within.f; rw [hi])
      clear hi
      go_enter Try.func101, Try.ntmps101
      go_wp2_with (first | (go_at_call 93; refine (hw _).mono ?_; rintro e w' ⟨rfl, hd⟩; have HB2 := Aside0.mk hd.below; clear hd) | (go_at_call 126; refine (hcon2 _ HB2.out).mono ?_; rintro e w2 ⟨rfl, hb⟩))
      go_ret2
      exact ⟨rfl, below_step (below_step HB.out HB2.out) hb⟩
  · rw [if_neg hl] at h
    cases h
end Go.Proofs.Ytdcdkckpmkfjdaa
