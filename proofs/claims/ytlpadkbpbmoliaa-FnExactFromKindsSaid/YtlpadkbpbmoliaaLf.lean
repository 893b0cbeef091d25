import Derived.Test.YtlpadkbpbmoliaaLk
import Derived.Test.YtlpadkbpbmoliaaHg
import Derived.Test.YtlpadkbpbmoliaaPx126
import Derived.Test.YtlpadkbpbmoliaaPx44
namespace Go.Proofs.Ytlpadkbpbmoliaa.L
open Go.RowKit Go.Proofs.Ytlpadkbpbmoliaa Go.Proofs.Ytlpadkbpbmoliaa.P Go.Proofs.YtlpadkbpbmoliaaW.PrintWords Go.Proofs.YtlpadkbpbmoliaaW.PrintLast Go.Proofs.YtlpadkbpbmoliaaW.PrintMore
set_option linter.unusedVariables false

theorem drop_eq_iff (a b : List Int) (i : Nat) (ha : i < a.length) (hb : i < b.length) : a.drop i = b.drop i ↔ rd a i = rd b i ∧ a.drop (i + 1) = b.drop (i + 1) := by
  rw [List.drop_eq_getElem_cons ha, List.drop_eq_getElem_cons hb, rd_at a i ha, rd_at b i hb, List.cons.injEq]
theorem spec_l1Same_l0 (a b : List Int) (hl : a.length ≤ 35184372088832) (hab : a.length = b.length) : ∀ (d i : Nat), i + d = a.length → Ev (fun k => spec_l1Same.l0 k a b a.length i) (decide (a.drop i = b.drop i)) := by
  intro d
  induction d with
  | zero =>
    intro i hi
    refine Ev.step (fun k => by rw [spec_l1Same.l0]) ?_
    rw [List.drop_eq_nil_of_le (by omega), List.drop_eq_nil_of_le (by omega)]
    exact Ev.ite_neg (by omega) (Ev.now _)
  | succ d ih =>
    intro i hi
    refine Ev.step (fun k => by rw [spec_l1Same.l0]) ?_
    refine Ev.ite_pos (by omega) (Ev.ite_pos (by omega) (Ev.ite_pos (by omega) (Ev.ite_pos (by omega) ?_)))
    have he := drop_eq_iff a b i (by omega) (by omega)
    by_cases h : rd a i = rd b i
    · refine Ev.ite_pos h ?_
      rw [wrapS i (by omega), show decide (a.drop i = b.drop i) = decide (a.drop (i + 1) = b.drop (i + 1)) from by rw [decide_eq_decide, he]; simp [h]]
      exact ih (i + 1) (by omega)
    · refine Ev.ite_neg h ?_
      rw [decide_eq_false (fun h2 => h (he.1 h2).1)]
      exact Ev.now _
theorem spec_l1Same_ev (a b : List Int) (hl : a.length ≤ 35184372088832) : Ev (fun k => spec_l1Same.f k a b) (decide (a = b)) := by
  unfold spec_l1Same.f
  by_cases h : (a.length : Int) = (b.length : Int)
  · refine Ev.ite_pos h ?_
    have := spec_l1Same_l0 a b hl (by omega) a.length 0 (by omega)
    simpa using this
  · refine Ev.ite_neg h ?_
    rw [decide_eq_false (fun e => h (by rw [e]))]
    exact Ev.now _
theorem weSame_l0 (a b : List (List Int)) (hl : fewRows a) (hab : a.length = b.length) : ∀ (d i : Nat), i + d = a.length → Ev (fun k => spec_weSame.l0 k b a a.length i) (decide (a.drop i = b.drop i)) := by
  have hl1 := hl.1
  intro d
  induction d with
  | zero =>
    intro i hi
    refine Ev.step (fun k => by rw [spec_weSame.l0]) ?_
    rw [List.drop_eq_nil_of_le (by omega), List.drop_eq_nil_of_le (by omega)]
    exact Ev.ite_neg (by omega) (Ev.now _)
  | succ d ih =>
    intro i hi
    have ha : i < a.length := by omega
    have hb : i < b.length := by omega
    refine Ev.step (fun k => by rw [spec_weSame.l0]) ?_
    refine Ev.ite_pos (by omega) (Ev.ite_pos (by omega) (Ev.ite_pos (by omega) (Ev.ite_pos (by omega) ?_)))
    rw [rd1_at a i ha, rd1_at b i hb, List.drop_eq_getElem_cons ha, List.drop_eq_getElem_cons hb]
    refine Ev.bind (spec_l1Same_ev a[i] b[i] (by have := hl.2 _ (List.getElem_mem ha); omega)) ?_
    by_cases h : a[i] = b[i]
    · rw [decide_eq_true h, wrapS i (by omega), show decide (a[i] :: a.drop (i + 1) = b[i] :: b.drop (i + 1)) = decide (a.drop (i + 1) = b.drop (i + 1)) from by rw [decide_eq_decide, List.cons.injEq]; simp [h]]
      exact Ev.ite_pos rfl (ih (i + 1) (by omega))
    · rw [decide_eq_false h, decide_eq_false (fun h2 => h (List.cons.inj h2).1)]
      exact Ev.ite_neg (by simp) (Ev.now _)
theorem weSame_ev (a b : List (List Int)) (hl : fewRows a) : Ev (fun k => spec_weSame.f k a b) (decide (a = b)) := by
  unfold spec_weSame.f
  by_cases h : (a.length : Int) = (b.length : Int)
  · refine Ev.ite_pos h ?_
    have := weSame_l0 a b hl (by omega) a.length 0 (by omega)
    simpa using this
  · refine Ev.ite_neg h ?_
    rw [decide_eq_false (fun e => h (by rw [e]))]
    exact Ev.now _
/-- The signs, when row i is read up to column j. -/
def stR (m : List (List Int)) (i j a : Nat) : List Int := (List.range m.length).map fun c => if a < i ∨ (a = i ∧ c < j) then fkF m a c else 0
def stF (m : List (List Int)) (i j : Nat) : List (List Int) := (List.range m.length).map fun a => stR m i j a
theorem stR_length (m : List (List Int)) (i j a : Nat) : (stR m i j a).length = m.length := by simp [stR]
theorem stF_length (m : List (List Int)) (i j : Nat) : (stF m i j).length = m.length := by simp [stF]
theorem stF_get (m : List (List Int)) (i j a : Nat) (h : a < m.length) : (stF m i j).getD a [] = stR m i j a := by simp [stF, List.getD_eq_getElem?_getD, h]
theorem stR_set (m : List (List Int)) (i j : Nat) (hj : j < m.length) : (stR m i j i).set j (fkF m i j) = stR m i (j + 1) i := by
  apply List.ext_getElem
  · simp [stR]
  · intro c h1 h2
    rw [List.getElem_set]
    simp only [stR, List.getElem_map, List.getElem_range]
    by_cases e : j = c
    · subst e
      rw [if_pos rfl, if_pos (Or.inr ⟨trivial, Nat.lt_succ_self j⟩)]
    · rw [if_neg e]
      by_cases h : c < j
      · rw [if_pos (Or.inr ⟨trivial, h⟩), if_pos (Or.inr ⟨trivial, Nat.lt_succ_of_lt h⟩)]
      · rw [if_neg (by omega), if_neg (by omega)]
theorem stF_set (m : List (List Int)) (i j : Nat) (hi : i < m.length) (hj : j < m.length) : (stF m i j).set i ((stR m i j i).set j (fkF m i j)) = stF m i (j + 1) := by
  rw [stR_set m i j hj]
  apply List.ext_getElem
  · rw [List.length_set, stF_length, stF_length]
  · intro a h1 h2
    rw [List.getElem_set]
    by_cases e : i = a
    · subst e
      rw [if_pos rfl]; simp [stF]
    · rw [if_neg e]
      simp only [stF, List.getElem_map, List.getElem_range, stR]
      apply List.map_congr_left
      intro c _
      by_cases h : a < i
      · rw [if_pos (by omega), if_pos (by omega)]
      · rw [if_neg (by omega), if_neg (by omega)]
theorem stF_skip (m : List (List Int)) (i j : Nat) (hi : i < m.length) (hj : j < m.length) (h : fkF m i j = 0) : stF m i (j + 1) = stF m i j := by
  unfold stF
  apply List.map_congr_left
  intro a _
  unfold stR
  apply List.map_congr_left
  intro c _
  by_cases e : a = i ∧ c = j
  · rw [e.1, e.2, if_pos (by omega), if_neg (by omega), h]
  · by_cases h2 : a < i ∨ (a = i ∧ c < j)
    · rw [if_pos h2, if_pos (by omega)]
    · rw [if_neg h2, if_neg (by omega)]
theorem stF_end (m : List (List Int)) (i : Nat) : stF m i m.length = stF m (i + 1) 0 := by
  unfold stF
  apply List.map_congr_left
  intro a _
  unfold stR
  apply List.map_congr_left
  intro c hc
  have := List.mem_range.1 hc
  by_cases h2 : a < i ∨ (a = i ∧ c < m.length)
  · rw [if_pos h2, if_pos (by omega)]
  · rw [if_neg h2, if_neg (by omega)]
theorem stF_last (m : List (List Int)) : stF m m.length 0 = fkT m := by
  unfold stF fkT tableL
  apply List.map_congr_left
  intro a ha
  unfold stR rowL
  apply List.map_congr_left
  intro c _
  rw [if_pos (.inl (List.mem_range.1 ha))]
theorem sgZero_l0 (m : List (List Int)) (hn : m.length ≤ 6) : ∀ (d i : Nat), i + d = m.length → Ev (fun k => spec_sgZero.l0 k m.length (List.replicate i (List.replicate m.length 0)) i) (stF m 0 0) := by
  intro d
  induction d with
  | zero =>
    intro i hi
    refine Ev.step (fun k => by rw [spec_sgZero.l0]) ?_
    have e : i = m.length := by omega
    have e2 : stF m 0 0 = List.replicate i (List.replicate m.length 0) := by
      rw [List.eq_replicate_iff]
      refine ⟨by rw [stF_length, e], fun b hb => ?_⟩
      obtain ⟨a, _, rfl⟩ := List.mem_map.1 hb
      rw [List.eq_replicate_iff]
      refine ⟨stR_length _ _ _ _, fun x hx => ?_⟩
      obtain ⟨c, _, rfl⟩ := List.mem_map.1 hx
      rw [if_neg (by omega)]
    rw [e2]
    exact Ev.ite_neg (by omega) (Ev.now _)
  | succ d ih =>
    intro i hi
    refine Ev.step (fun k => by rw [spec_sgZero.l0]) ?_
    rw [Int.toNat_natCast, wrapS i (by omega), show List.replicate i (List.replicate m.length (0 : Int)) ++ [List.replicate m.length 0] = List.replicate (i + 1) (List.replicate m.length 0) from List.replicate_succ'.symm]
    exact Ev.ite_pos (by omega) (Ev.ite_pos (by omega) (Ev.ite_pos (by omega) (Ev.ite_pos (by rw [List.length_replicate]; omega) (ih (i + 1) (by omega)))))
theorem FromKinds_l1 (m : List (List Int)) (hn : m.length ≤ 6) (h3 : ∀ i, i < m.length → (m.getD i []).length = m.length) (i : Nat) (hi : i < m.length) (r : List (List Int) × Bool)
    (hr : Ev (fun k => spec_FromKinds.l0 k m (stF m (i + 1) 0) m m.length (wrap64 ((i : Int) + 1))) r) :
    ∀ (d j : Nat), j + d = m.length → Ev (fun k => spec_FromKinds.l1 k m (stF m i j) i m m.length i (m.getD i []) (m.getD i []).length j) r := by
  intro d
  induction d with
  | zero =>
    intro j hj
    refine Ev.step (fun k => by rw [spec_FromKinds.l1]) ?_
    rw [h3 i hi]
    have hj2 : j = m.length := by omega
    subst hj2
    rw [stF_end]
    exact Ev.ite_neg (by omega) hr
  | succ d ih =>
    intro j hj
    have hjn : j < m.length := by omega
    have hz : (0 : Int) ≤ (j : Int) := by omega
    have hjz : (j : Int) < ((m.getD i []).length : Int) := by rw [h3 i hi]; omega
    have hnext := ih (j + 1) (by omega)
    have hrow : rd_L1 (stF m i j) (i : Int) = stR m i j i := by rw [rd1_get, stF_get m i j i hi]
    have hil : (i : Int) < ((stF m i j).length : Int) := by rw [stF_length]; omega
    have hjl : (j : Int) < ((stR m i j i).length : Int) := by rw [stR_length]; omega
    refine Ev.step (fun k => by rw [spec_FromKinds.l1]) ?_
    refine Ev.ite_pos hjz (Ev.ite_pos hz (Ev.ite_pos hjz ?_))
    rw [hrow, wrapS j (by omega), Int.toNat_natCast, Int.toNat_natCast]
    by_cases c1 : rd (m.getD i []) (j : Int) = 4
    · have hf : fkF m i j = 1 := by unfold fkF; rw [if_pos c1]
      have hs := stF_set m i j hi hjn
      rw [hf] at hs
      rw [hs]
      exact Ev.ite_pos c1 (Ev.ite_pos (by omega) (Ev.ite_pos hil (Ev.ite_pos hjl hnext)))
    · refine Ev.ite_neg c1 ?_
      by_cases c2 : rd (m.getD i []) (j : Int) = 5
      · have hf : fkF m i j = -1 := by unfold fkF; rw [if_neg c1, if_pos c2]
        have hs := stF_set m i j hi hjn
        rw [hf] at hs
        rw [hs]
        exact Ev.ite_pos c2 (Ev.ite_pos (by omega) (Ev.ite_pos hil (Ev.ite_pos hjl hnext)))
      · have hf : fkF m i j = 0 := by unfold fkF; rw [if_neg c1, if_neg c2]
        rw [stF_skip m i j hi hjn hf] at hnext
        exact Ev.ite_neg c2 hnext
theorem fkT_few (m : List (List Int)) (hn : m.length ≤ 6) : fewRows (fkT m) := by
  refine ⟨by rw [fkT_length]; omega, fun r hr => ?_⟩
  obtain ⟨i, _, rfl⟩ := List.mem_map.1 hr
  rw [rowL_length]; omega
theorem kindsM_few {m : List (List Int)} (hs : isSign m = true) : fewRows (kindsM m) := by
  have h2 := (isSign_facts hs).2.1
  refine ⟨by rw [kindsM, tableL_length]; omega, fun r hr => ?_⟩
  obtain ⟨i, _, rfl⟩ := List.mem_map.1 hr
  rw [rowL_length]; omega
theorem FromKinds_l0 (m : List (List Int)) (hn : m.length ≤ 6) (h3 : ∀ i, i < m.length → (m.getD i []).length = m.length) (r : List (List Int) × Bool)
    (hr : r = if isSign (fkT m) = true ∧ kindsM (fkT m) = m then (fkT m, true) else ([], false)) :
    ∀ (d i : Nat), i + d = m.length → Ev (fun k => spec_FromKinds.l0 k m (stF m i 0) m m.length i) r := by
  intro d
  induction d with
  | zero =>
    intro i hi
    refine Ev.step (fun k => by rw [spec_FromKinds.l0]) ?_
    have hi2 : i = m.length := by omega
    subst hi2
    rw [stF_last]
    refine Ev.ite_neg (by omega) (Ev.bind (sgGood_ev (fkT m) (fkT_few m hn)) ?_)
    cases hs : isSign (fkT m) with
    | false =>
      rw [hr, hs, if_neg (by simp)]
      exact Ev.ite_neg (by simp) (Ev.now _)
    | true =>
      refine Ev.ite_pos rfl (Ev.bind (weKinds_ev (fkT m) hs) (Ev.bind (weSame_ev _ m (kindsM_few hs)) ?_))
      by_cases e : kindsM (fkT m) = m
      · have hr2 : r = (fkT m, true) := by rw [hr, if_pos ⟨hs, e⟩]
        rw [hr2]
        exact Ev.ite_pos (decide_eq_true e) (Ev.now _)
      · have hr2 : r = ([], false) := by rw [hr, if_neg (fun h => e h.2)]
        rw [hr2]
        exact Ev.ite_neg (by simpa using e) (Ev.now _)
  | succ d ih =>
    intro i hi
    refine Ev.step (fun k => by rw [spec_FromKinds.l0]) ?_
    refine Ev.ite_pos (by omega) (Ev.ite_pos (by omega) (Ev.ite_pos (by omega) ?_))
    rw [rd1_get]
    exact FromKinds_l1 m hn h3 i (by omega) r (by rw [wrapS i (by omega)]; exact ih (i + 1) (by omega)) m.length 0 (by omega)
theorem sgSquare_ev (m : List (List Int)) (hm : fewRows m) : Ev (fun k => spec_sgSquare.f k m) (inB m.length 1 6 && squareB m) := by
  unfold spec_sgSquare.f
  rw [l1In_eq]
  simp only [Option.bind_some]
  cases h1 : inB (m.length : Int) 1 6 with
  | false => exact Ev.now _
  | true =>
    have := sgSquare_l0 m hm.1 m.length 0 (by omega)
    simpa [squareB] using this
theorem FromKinds_ev (m : List (List Int)) (hm : fewRows m) : Ev (fun k => spec_FromKinds.f k m) (fkR m, fkOk m) := by
  unfold spec_FromKinds.f
  refine Ev.bind (sgSquare_ev m hm) ?_
  cases h1 : inB (m.length : Int) 1 6 with
  | false =>
    have e1 : fkOk m = false := by unfold fkOk; rw [h1]; rfl
    rw [fkR, e1, if_neg (by simp)]
    exact Ev.ite_neg (by simp) (Ev.now _)
  | true =>
    cases h2 : squareB m with
    | false =>
      have e1 : fkOk m = false := by unfold fkOk; rw [h1, h2]; rfl
      rw [fkR, e1, if_neg (by simp)]
      exact Ev.ite_neg (by simp) (Ev.now _)
    | true =>
      have hb := (inB_iff _ _ _).1 h1
      have h3 : ∀ i, i < m.length → (m.getD i []).length = m.length := fun i hi => by
        rw [List.getD_eq_getElem?_getD, List.getElem?_eq_getElem hi]
        exact beq_iff_eq.1 (List.all_eq_true.1 h2 _ (List.getElem_mem hi))
      refine Ev.ite_pos rfl (Ev.bind (sgZero_l0 m (by omega) m.length 0 (by omega)) ?_)
      refine FromKinds_l0 m (by omega) h3 _ ?_ m.length 0 (by omega)
      have e1 : fkOk m = (isSign (fkT m) && (cmpT (kindsM (fkT m)) m == 0)) := by unfold fkOk; rw [h1, h2]; rfl
      unfold fkR
      rw [e1]
      cases hs : isSign (fkT m) with
      | false => simp
      | true =>
        by_cases e : kindsM (fkT m) = m
        · rw [(cmpT_zero _ _).2 e, if_pos (by rfl), if_pos ⟨rfl, e⟩]; rfl
        · have h0 : (cmpT (kindsM (fkT m)) m == 0) = false := by rw [beq_eq_false_iff_ne]; exact fun h => e ((cmpT_zero _ _).1 h)
          rw [h0, if_neg (by simp), if_neg (fun h => e h.2)]; rfl
end Go.Proofs.Ytlpadkbpbmoliaa.L
