import Derived.Test.YtlpadkbpbmoliaaLs
import Derived.Test.YtlpadkbpbmoliaaHA
import Derived.Test.YtlpadkbpbmoliaaPx58
namespace Go.Proofs.Ytlpadkbpbmoliaa.L
open Go.RowKit Go.Proofs.Ytlpadkbpbmoliaa Go.Proofs.Ytlpadkbpbmoliaa.P Go.Proofs.YtlpadkbpbmoliaaW.PrintWords Go.Proofs.YtlpadkbpbmoliaaW.PrintLast Go.Proofs.YtlpadkbpbmoliaaW.PrintMore

theorem l1In_eq (a b c : Int) : spec_l1In.f a b c = some (inB a b c) := by
  unfold spec_l1In.f inB
  by_cases h : a ≥ b
  · rw [if_pos h]; simp [show b ≤ a from h]
  · rw [if_neg h]; simp [show ¬ b ≤ a from h]
theorem sgSquare_l0 (l : List (List Int)) (hl : l.length ≤ 1048576) : ∀ (d i : Nat), i + d = l.length → Ev (fun k => spec_sgSquare.l0 k l l l.length i) ((l.drop i).all fun r => r.length == l.length) := by
  intro d
  induction d with
  | zero =>
    intro i hi
    refine Ev.step (fun k => by rw [spec_sgSquare.l0]) ?_
    rw [List.drop_eq_nil_of_le (by omega)]
    exact Ev.ite_neg (by omega) (Ev.now _)
  | succ d ih =>
    intro i hi
    refine Ev.step (fun k => by rw [spec_sgSquare.l0]) ?_
    refine Ev.ite_pos (by omega) (Ev.ite_pos (by omega) (Ev.ite_pos (by omega) ?_))
    rw [rd1_at l i (by omega), List.drop_eq_getElem_cons (by omega), List.all_cons]
    by_cases h : l[i].length = l.length
    · refine Ev.ite_pos (by omega) ?_
      rw [wrapS i (by omega), beq_iff_eq.2 h, Bool.true_and]
      exact ih (i + 1) (by omega)
    · rw [beq_eq_false_iff_ne.2 h, Bool.false_and]
      exact Ev.ite_neg (by omega) (Ev.now _)
theorem sgRows_l1 (T : List (List Int)) (i : Nat) (row : List Int) (hl : row.length ≤ 1048576) (b : Bool) (hb : Ev (fun k => spec_sgRows.l0 k T T.length (wrap64 ((i : Int) + 1))) b) :
    ∀ (d j : Nat) (s : Int), j + d = row.length → 0 ≤ s → s ≤ 1 → Ev (fun k => spec_sgRows.l1 k s T T.length i row row.length j) (altFrom (row.drop j) s && b) := by
  intro d
  induction d with
  | zero =>
    intro j s hj h0 h1
    refine Ev.step (fun k => by rw [spec_sgRows.l1]) ?_
    rw [List.drop_eq_nil_of_le (by omega), altFrom]
    refine Ev.ite_neg (by omega) ?_
    by_cases h : s = 1
    · refine Ev.ite_pos h ?_
      rw [beq_iff_eq.2 h, Bool.true_and]
      exact hb
    · rw [beq_eq_false_iff_ne.2 h, Bool.false_and]
      exact Ev.ite_neg h (Ev.now _)
  | succ d ih =>
    intro j s hj h0 h1
    refine Ev.step (fun k => by rw [spec_sgRows.l1]) ?_
    refine Ev.ite_pos (by omega) (Ev.ite_pos (by omega) (Ev.ite_pos (by omega) ?_))
    rw [l1In_eq]
    simp only [Option.bind_some]
    cases h : inB (rd row j) (-1) 1 with
    | false =>
      rw [altFrom_false1 row j (by omega) s h, Bool.false_and]
      exact Ev.ite_neg (by simp) (Ev.now _)
    | true =>
      have hr := (inB_iff _ _ _).1 h
      rw [altFrom_step row j (by omega) s h]
      refine Ev.ite_pos rfl ?_
      have hw : wrap64 (s + rd row j) = s + rd row j := wrapI _ (by omega) (by omega)
      rw [l1In_eq, hw]
      simp only [Option.bind_some]
      cases h2 : inB (s + rd row j) 0 1 with
      | false =>
        rw [Bool.false_and, Bool.false_and]
        exact Ev.ite_neg (by simp) (Ev.now _)
      | true =>
        have hr2 := (inB_iff _ _ _).1 h2
        rw [Bool.true_and, wrapS j (by omega)]
        exact Ev.ite_pos rfl (ih (j + 1) _ (by omega) hr2.1 hr2.2)
theorem sgRows_l0 (T : List (List Int)) (hT : fewRows T) : ∀ (d i : Nat), i + d = T.length → Ev (fun k => spec_sgRows.l0 k T T.length i) ((T.drop i).all altB) := by
  intro d
  induction d with
  | zero =>
    intro i hi
    refine Ev.step (fun k => by rw [spec_sgRows.l0]) ?_
    rw [List.drop_eq_nil_of_le (by omega)]
    exact Ev.ite_neg (by omega) (Ev.now _)
  | succ d ih =>
    intro i hi
    refine Ev.step (fun k => by rw [spec_sgRows.l0]) ?_
    refine Ev.ite_pos (by omega) (Ev.ite_pos (by omega) (Ev.ite_pos (by omega) ?_))
    rw [rd1_at T i (by omega), List.drop_eq_getElem_cons (by omega), List.all_cons]
    have hn := hT.1
    exact sgRows_l1 T i T[i] (hT.2 _ (List.getElem_mem (by omega))) _ (by rw [wrapS i (by omega)]; exact ih (i + 1) (by omega)) T[i].length 0 0 (by omega) (by omega) (by omega)
theorem sgRows_ev (T : List (List Int)) (hT : fewRows T) : Ev (fun k => spec_sgRows.f k T) (T.all altB) := sgRows_l0 T hT T.length 0 (by omega)

theorem sgTurn_l1 (m : List (List Int)) (hn : m.length ≤ 6) (h3 : ∀ i, i < m.length → (m.getD i []).length = m.length) (acc : List (List Int)) (j : Nat) (hj : j < m.length) (x9 x10 : Int) (hx10 : x10 = j) (r : List (List Int))
    (hr : Ev (fun k => spec_sgTurn.l0 k m (acc ++ [colL m j]) x9 (wrap64 ((j : Int) + 1))) r) (hacc : acc.length ≤ 6) :
    ∀ (d i : Nat), i + d = m.length → Ev (fun k => spec_sgTurn.l1 k m acc j (colTo m j i) x9 x10 m m.length i) r := by
  intro d
  induction d with
  | zero =>
    intro i hi
    refine Ev.step (fun k => by rw [spec_sgTurn.l1]) ?_
    refine Ev.ite_neg (by omega) (Ev.ite_pos (by omega) ?_)
    have hi2 : i = m.length := by omega
    subst hi2
    rw [hx10]
    exact hr
  | succ d ih =>
    intro i hi
    refine Ev.step (fun k => by rw [spec_sgTurn.l1]) ?_
    have hri : rd_L1 m (i : Int) = m.getD i [] := by rw [rd1_at m i (by omega), List.getD_eq_getElem?_getD, List.getElem?_eq_getElem (by omega)]; rfl
    rw [hri]
    refine Ev.ite_pos (by omega) (Ev.ite_pos (by omega) (Ev.ite_pos (by omega) (Ev.ite_pos (by omega) (Ev.ite_pos (by rw [h3 i (by omega)]; omega) (Ev.ite_pos (by rw [colTo_length]; omega) ?_)))))
    rw [wrapS i (by omega), ← colTo_succ]
    exact ih (i + 1) (by omega)
theorem sgTurn_l0 (m : List (List Int)) (hn : m.length ≤ 6) (h3 : ∀ i, i < m.length → (m.getD i []).length = m.length) :
    ∀ (d j : Nat), j + d = m.length → Ev (fun k => spec_sgTurn.l0 k m ((List.range j).map (colL m)) m.length j) ((List.range m.length).map (colL m)) := by
  intro d
  induction d with
  | zero =>
    intro j hj
    refine Ev.step (fun k => by rw [spec_sgTurn.l0]) ?_
    have hi2 : j = m.length := by omega
    subst hi2
    exact Ev.ite_neg (by omega) (Ev.now _)
  | succ d ih =>
    intro j hj
    refine Ev.step (fun k => by rw [spec_sgTurn.l0]) ?_
    refine Ev.ite_pos (by omega) ?_
    refine sgTurn_l1 m hn h3 _ j (by omega) _ _ rfl _ ?_ (by simp; omega) m.length 0 (by omega)
    have e : (List.range j).map (colL m) ++ [colL m j] = (List.range (j + 1)).map (colL m) := by simp [List.range_succ]
    rw [wrapS j (by omega), e]
    exact ih (j + 1) (by omega)
theorem all_and {l : List Nat} (f g : Nat → Bool) : (l.all fun i => f i && g i) = (l.all f && l.all g) := by
  induction l with
  | nil => rfl
  | cons a l ih => rw [List.all_cons, List.all_cons, List.all_cons, ih]; cases f a <;> cases g a <;> simp
theorem rows_all (m : List (List Int)) : ((List.range m.length).all fun i => altB (m.getD i [])) = m.all altB := by
  rw [Bool.eq_iff_iff, List.all_eq_true, List.all_eq_true]
  constructor
  · intro h r hr
    obtain ⟨i, hi, rfl⟩ := List.mem_iff_getElem.1 hr
    have := h i (List.mem_range.2 hi)
    rwa [List.getD_eq_getElem?_getD, List.getElem?_eq_getElem hi] at this
  · intro h i hi
    have hi2 := List.mem_range.1 hi
    rw [List.getD_eq_getElem?_getD, List.getElem?_eq_getElem hi2]
    exact h _ (List.getElem_mem hi2)
theorem isSign_eq (m : List (List Int)) : isSign m = (inB m.length 1 6 && (squareB m && (m.all altB && ((List.range m.length).map (colL m)).all altB))) := by
  unfold isSign signsFrom
  rw [Nat.sub_zero, ← List.range_eq_range', all_and, rows_all, List.all_map]; rfl
theorem sgGood_ev (m : List (List Int)) (hm : fewRows m) : Ev (fun k => spec_sgGood.f k m) (isSign m) := by
  unfold spec_sgGood.f spec_sgSquare.f
  rw [isSign_eq, l1In_eq]
  simp only [Option.bind_some]
  cases h1 : inB (m.length : Int) 1 6 with
  | false => exact Ev.now _
  | true =>
    have hb := (inB_iff _ _ _).1 h1
    have hn := hm.1
    refine Ev.bind (a := squareB m) ?_ ?_
    · have := sgSquare_l0 m hn m.length 0 (by omega)
      simpa [squareB] using this
    · cases h2 : squareB m with
      | false => exact Ev.now _
      | true =>
        have h3 : ∀ i, i < m.length → (m.getD i []).length = m.length := fun i hi => by
          rw [List.getD_eq_getElem?_getD, List.getElem?_eq_getElem hi]
          exact beq_iff_eq.1 (List.all_eq_true.1 h2 _ (List.getElem_mem hi))
        refine Ev.ite_pos rfl (Ev.bind (sgRows_ev m hm) ?_)
        cases h4 : m.all altB with
        | false => exact Ev.now _
        | true =>
          refine Ev.ite_pos rfl (Ev.bind (sgTurn_l0 m (by omega) h3 m.length 0 (by omega)) ?_)
          rw [Bool.true_and, Bool.true_and, Bool.true_and]
          refine (Ev.bind (sgRows_ev _ ⟨by simp; omega, fun r hr => ?_⟩) (Ev.now _))
          obtain ⟨j, _, rfl⟩ := List.mem_map.1 hr
          rw [colL_length]; omega
end Go.Proofs.Ytlpadkbpbmoliaa.L
