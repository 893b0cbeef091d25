import Derived.Test.YtlpadkbpbmoliaaHA
import Derived.Test.YtlpadkbpbmoliaaRw
import Derived.Test.YtlpadkbpbmoliaaPx15
import Derived.Test.YtlpadkbpbmoliaaPx19
import Derived.Test.YtlpadkbpbmoliaaPx58
import Derived.Test.YtlpadkbpbmoliaaPx61
import Derived.Test.YtlpadkbpbmoliaaPx119
import Derived.Test.YtlpadkbpbmoliaaPx118
import Derived.Test.YtlpadkbpbmoliaaPx110
namespace Go.Proofs.Ytlpadkbpbmoliaa.L
open Go.RowKit Go.Proofs.Ytlpadkbpbmoliaa Go.Proofs.Ytlpadkbpbmoliaa.P Go.Proofs.YtlpadkbpbmoliaaW.PrintWords Go.Proofs.YtlpadkbpbmoliaaW.PrintLast Go.Proofs.YtlpadkbpbmoliaaW.PrintMore

theorem wrapS (i : Nat) (h : i < 9223372036854775807) : wrap64 ((i : Int) + 1) = ((i + 1 : Nat) : Int) := by unfold wrap64; omega
theorem wrapI (i : Int) (h0 : -9223372036854775808 ≤ i) (h : i ≤ 9223372036854775807) : wrap64 i = i := by unfold wrap64; omega
theorem wrapP (i : Nat) (h0 : 1 ≤ i) (h : i < 9223372036854775807) : wrap64 ((i : Int) - 1) = ((i - 1 : Nat) : Int) := by unfold wrap64; omega
theorem rd_at (l : List Int) (i : Nat) (h : i < l.length) : rd l (i : Int) = l[i] := by simp [rd, List.getD_eq_getElem?_getD, h]
theorem rd1_at (l : List (List Int)) (i : Nat) (h : i < l.length) : rd_L1 l (i : Int) = l[i] := by simp [rd_L1, List.getD_eq_getElem?_getD, h]
theorem rd1_get (l : List (List Int)) (i : Nat) : rd_L1 l (i : Int) = l.getD i [] := by simp [rd_L1]
theorem Ev.ite_pos {α : Type} {c : Prop} [Decidable c] {a b : Nat → Option α} {r : α} (h : c) (k : Ev a r) : Ev (fun n => if c then a n else b n) r := by
  simp only [if_pos h]; exact k
theorem Ev.ite_neg {α : Type} {c : Prop} [Decidable c] {a b : Nat → Option α} {r : α} (h : ¬ c) (k : Ev b r) : Ev (fun n => if c then a n else b n) r := by
  simp only [if_neg h]; exact k
theorem Ev.some_bind {α β : Type} {o : Option α} {a : α} {f : Nat → α → Option β} {r : β} (h : o = some a) (k : Ev (fun n => f n a) r) : Ev (fun n => o.bind (f n)) r := by
  subst h; simp only [Option.bind_some]; exact k
theorem eqIntS_l0 (l : List Int) (hl : l.length ≤ 17592186044416) : ∀ (d i : Nat), i + d = l.length → Ev (fun k => laws_eqIntS.l0 k l l i) true := by
  intro d
  induction d with
  | zero =>
    intro i hi
    refine Ev.step (fun k => by rw [laws_eqIntS.l0]) ?_
    exact Ev.ite_neg (by omega) (Ev.now _)
  | succ d ih =>
    intro i hi
    refine Ev.step (fun k => by rw [laws_eqIntS.l0]) ?_
    refine Ev.ite_pos (by omega) (Ev.ite_pos (by omega) (Ev.ite_pos (by omega) (Ev.ite_pos rfl ?_)))
    rw [wrapS i (by omega)]
    exact ih (i + 1) (by omega)
theorem eqIntS (l : List Int) (hl : l.length ≤ 17592186044416) : Ev (fun k => laws_eqIntS.f k l l) true := by
  unfold laws_eqIntS.f
  exact Ev.ite_pos rfl (eqIntS_l0 l hl l.length 0 (by omega))
theorem eqIntSS_l0 (l : List (List Int)) (hl : rowsOk l) : ∀ (d i : Nat), i + d = l.length → Ev (fun k => laws_eqIntSS.l0 k l l i) true := by
  have hl1 := hl.1
  intro d
  induction d with
  | zero =>
    intro i hi
    refine Ev.step (fun k => by rw [laws_eqIntSS.l0]) ?_
    exact Ev.ite_neg (by omega) (Ev.now _)
  | succ d ih =>
    intro i hi
    refine Ev.step (fun k => by rw [laws_eqIntSS.l0]) ?_
    refine Ev.ite_pos (by omega) (Ev.ite_pos (by omega) (Ev.ite_pos (by omega) (Ev.bind (eqIntS _ (by rw [rd1_get]; exact hl.at_ i)) (Ev.ite_pos rfl ?_))))
    rw [wrapS i (by omega)]
    exact ih (i + 1) (by omega)
theorem eqIntSS (l : List (List Int)) (hl : rowsOk l) : Ev (fun k => laws_eqIntSS.f k l l) true := by
  unfold laws_eqIntSS.f
  exact Ev.ite_pos rfl (eqIntSS_l0 l hl l.length 0 (by omega))
theorem toIntSS_eq (l : List (List Int)) (hl : rowsOk l) : laws_toIntSS.f l = some l := by
  unfold laws_toIntSS.f
  rw [if_pos ⟨hl.1, List.all_eq_true.2 fun r hr => decide_eq_true (hl.2 r hr)⟩]
theorem toIntS_eq (l : List Int) (hl : l.length ≤ 17592186044416) : laws_toIntS.f l = some l := by
  unfold laws_toIntS.f
  rw [if_pos hl]

/-- Few rows, and short ones. -/
def fewRows (l : List (List Int)) : Prop := l.length ≤ 1048576 ∧ ∀ r ∈ l, r.length ≤ 1048576
theorem fewRows.ok {l : List (List Int)} (h : fewRows l) : rowsOk l := ⟨by have := h.1; omega, fun r hr => by have := h.2 r hr; omega⟩
theorem szIntSS_l0 (l : List (List Int)) (hl : l.length ≤ 1048576) (hr : ∀ r ∈ l, r.length ≤ 9223372036854775807) : ∀ (d i : Nat) (left : Int), i + d = l.length → 0 ≤ left → left ≤ 1048576 →
    ∃ t : Int, t ≤ 1048576 ∧ Ev (fun k => laws_szIntSS.l0 k l left i) t ∧ (t < 0 ∨ ∀ r ∈ l.drop i, r.length ≤ 1048576) := by
  intro d
  induction d with
  | zero =>
    intro i left hi h0 h1
    refine ⟨left, h1, ?_, .inr fun r hr => ?_⟩
    · refine Ev.step (fun k => by rw [laws_szIntSS.l0]) ?_
      exact Ev.ite_neg (by omega) (Ev.now _)
    · rw [List.drop_eq_nil_of_le (by omega)] at hr
      cases hr
  | succ d ih =>
    intro i left hi h0 h1
    have hri : l[i].length ≤ 9223372036854775807 := hr _ (List.getElem_mem (by omega))
    have hw : wrap64 (left - (l[i].length : Int)) = left - (l[i].length : Int) := wrapI _ (by omega) (by omega)
    by_cases hn : left - (l[i].length : Int) < 0
    · refine ⟨-1, by omega, ?_, .inl (by omega)⟩
      refine Ev.step (fun k => by rw [laws_szIntSS.l0]) ?_
      refine Ev.ite_pos (by omega) (Ev.ite_pos (by omega) (Ev.some_bind (a := -1) ?_ (Ev.ite_pos (by omega) (Ev.now _))))
      rw [rd1_at l i (by omega)]
      unfold laws_szIntS.f
      rw [hw, if_pos hn]
    · obtain ⟨t, ht1, ht, hd⟩ := ih (i + 1) (left - (l[i].length : Int)) (by omega) (by omega) (by omega)
      refine ⟨t, ht1, ?_, ?_⟩
      · refine Ev.step (fun k => by rw [laws_szIntSS.l0]) ?_
        refine Ev.ite_pos (by omega) (Ev.ite_pos (by omega) (Ev.some_bind (a := left - (l[i].length : Int)) ?_ (Ev.ite_neg (by omega) ?_)))
        · rw [rd1_at l i (by omega)]
          unfold laws_szIntS.f
          rw [hw, if_neg hn]
        · rw [wrapS i (by omega)]
          exact ht
      · rcases hd with hd | hd
        · exact .inl hd
        · refine .inr fun r hr2 => ?_
          rw [List.drop_eq_getElem_cons (by omega)] at hr2
          rcases List.mem_cons.1 hr2 with rfl | h2
          · omega
          · exact hd r h2
theorem szIntSS_at (l : List (List Int)) (left : Int) (h0 : 0 ≤ left) (h1 : left ≤ 1048576) (hlen : l.length ≤ 9223372036854775807) (hr : ∀ r ∈ l, r.length ≤ 9223372036854775807) : ∃ t : Int, t ≤ 1048576 ∧ Ev (fun k => laws_szIntSS.f k l left) t ∧ (t < 0 ∨ fewRows l) := by
  unfold laws_szIntSS.f
  have hw : wrap64 (left - (l.length : Int)) = left - (l.length : Int) := wrapI _ (by omega) (by omega)
  rw [hw]
  by_cases hn : left - (l.length : Int) < 0
  · exact ⟨-1, by omega, Ev.ite_pos hn (Ev.now _), .inl (by omega)⟩
  · obtain ⟨t, ht1, ht, hd⟩ := szIntSS_l0 l (by omega) hr l.length 0 (left - (l.length : Int)) (by omega) (by omega) (by omega)
    refine ⟨t, ht1, Ev.ite_neg hn ht, ?_⟩
    rcases hd with hd | hd
    · exact .inl hd
    · exact .inr ⟨by omega, by simpa using hd⟩
theorem szIntSS_in {w : World} {A : Option Addr} {n c : Nat} {l : List (List Int)} (h : RowsIn w A n c l) : ∃ t : Int, Ev (fun k => laws_szIntSS.f k l 1048576) t ∧ (t < 0 ∨ fewRows l) := by
  obtain ⟨t, _, ht, hd⟩ := szIntSS_at l 1048576 (by omega) (by omega) (by have := h.size; omega) (fun r hr => (h.rows r hr).1)
  exact ⟨t, ht, hd⟩

end Go.Proofs.Ytlpadkbpbmoliaa.L

namespace Go.Proofs.Ytlpadkbpbmoliaa.L
open Go.RowKit Go.Proofs.Ytlpadkbpbmoliaa Go.Proofs.Ytlpadkbpbmoliaa.P Go.Proofs.YtlpadkbpbmoliaaW.PrintWords Go.Proofs.YtlpadkbpbmoliaaW.PrintLast Go.Proofs.YtlpadkbpbmoliaaW.PrintMore

theorem l1In_eq (a b c : Int) : spec_l1In.f a b c = some (inB a b c) := by
  unfold spec_l1In.f inB
  by_cases h : a ≥ b
  · rw [if_pos h]; simp [show b ≤ a from h]
  · rw [if_neg h]; simp [show ¬ b ≤ a from h]
theorem sgSquare_l0 (l : List (List Int)) (hl : l.length ≤ 1048576) : ∀ (d i : Nat), i + d = l.length → Ev (fun k => spec_sgSquare.l0 k l l l.length i) ((l.drop i).all fun r => r.length == l.length) := by
  intro d
  induction d with
  | zero =>
    intro i hi
    refine Ev.step (fun k => by rw [spec_sgSquare.l0]) ?_
    rw [List.drop_eq_nil_of_le (by omega)]
    exact Ev.ite_neg (by omega) (Ev.now _)
  | succ d ih =>
    intro i hi
    refine Ev.step (fun k => by rw [spec_sgSquare.l0]) ?_
    refine Ev.ite_pos (by omega) (Ev.ite_pos (by omega) (Ev.ite_pos (by omega) ?_))
    rw [rd1_at l i (by omega), List.drop_eq_getElem_cons (by omega), List.all_cons]
    by_cases h : l[i].length = l.length
    · refine Ev.ite_pos (by omega) ?_
      rw [wrapS i (by omega), beq_iff_eq.2 h, Bool.true_and]
      exact ih (i + 1) (by omega)
    · rw [beq_eq_false_iff_ne.2 h, Bool.false_and]
      exact Ev.ite_neg (by omega) (Ev.now _)
theorem sgRows_l1 (T : List (List Int)) (i : Nat) (row : List Int) (hl : row.length ≤ 1048576) (b : Bool) (hb : Ev (fun k => spec_sgRows.l0 k T T.length (wrap64 ((i : Int) + 1))) b) :
    ∀ (d j : Nat) (s : Int), j + d = row.length → 0 ≤ s → s ≤ 1 → Ev (fun k => spec_sgRows.l1 k s T T.length i row row.length j) (altFrom (row.drop j) s && b) := by
  intro d
  induction d with
  | zero =>
    intro j s hj h0 h1
    refine Ev.step (fun k => by rw [spec_sgRows.l1]) ?_
    rw [List.drop_eq_nil_of_le (by omega), altFrom]
    refine Ev.ite_neg (by omega) ?_
    by_cases h : s = 1
    · refine Ev.ite_pos h ?_
      rw [beq_iff_eq.2 h, Bool.true_and]
      exact hb
    · rw [beq_eq_false_iff_ne.2 h, Bool.false_and]
      exact Ev.ite_neg h (Ev.now _)
  | succ d ih =>
    intro j s hj h0 h1
    refine Ev.step (fun k => by rw [spec_sgRows.l1]) ?_
    refine Ev.ite_pos (by omega) (Ev.ite_pos (by omega) (Ev.ite_pos (by omega) ?_))
    rw [l1In_eq]
    simp only [Option.bind_some]
    cases h : inB (rd row j) (-1) 1 with
    | false =>
      rw [altFrom_false1 row j (by omega) s h, Bool.false_and]
      exact Ev.ite_neg (by simp) (Ev.now _)
    | true =>
      have hr := (inB_iff _ _ _).1 h
      rw [altFrom_step row j (by omega) s h]
      refine Ev.ite_pos rfl ?_
      have hw : wrap64 (s + rd row j) = s + rd row j := wrapI _ (by omega) (by omega)
      rw [l1In_eq, hw]
      simp only [Option.bind_some]
      cases h2 : inB (s + rd row j) 0 1 with
      | false =>
        rw [Bool.false_and, Bool.false_and]
        exact Ev.ite_neg (by simp) (Ev.now _)
      | true =>
        have hr2 := (inB_iff _ _ _).1 h2
        rw [Bool.true_and, wrapS j (by omega)]
        exact Ev.ite_pos rfl (ih (j + 1) _ (by omega) hr2.1 hr2.2)
theorem sgRows_l0 (T : List (List Int)) (hT : fewRows T) : ∀ (d i : Nat), i + d = T.length → Ev (fun k => spec_sgRows.l0 k T T.length i) ((T.drop i).all altB) := by
  intro d
  induction d with
  | zero =>
    intro i hi
    refine Ev.step (fun k => by rw [spec_sgRows.l0]) ?_
    rw [List.drop_eq_nil_of_le (by omega)]
    exact Ev.ite_neg (by omega) (Ev.now _)
  | succ d ih =>
    intro i hi
    refine Ev.step (fun k => by rw [spec_sgRows.l0]) ?_
    refine Ev.ite_pos (by omega) (Ev.ite_pos (by omega) (Ev.ite_pos (by omega) ?_))
    rw [rd1_at T i (by omega), List.drop_eq_getElem_cons (by omega), List.all_cons]
    have hn := hT.1
    exact sgRows_l1 T i T[i] (hT.2 _ (List.getElem_mem (by omega))) _ (by rw [wrapS i (by omega)]; exact ih (i + 1) (by omega)) T[i].length 0 0 (by omega) (by omega) (by omega)
theorem sgRows_ev (T : List (List Int)) (hT : fewRows T) : Ev (fun k => spec_sgRows.f k T) (T.all altB) := sgRows_l0 T hT T.length 0 (by omega)

theorem sgTurn_l1 (m : List (List Int)) (hn : m.length ≤ 6) (h3 : ∀ i, i < m.length → (m.getD i []).length = m.length) (acc : List (List Int)) (j : Nat) (hj : j < m.length) (x9 x10 : Int) (hx10 : x10 = j) (r : List (List Int))
    (hr : Ev (fun k => spec_sgTurn.l0 k m (acc ++ [colL m j]) x9 (wrap64 ((j : Int) + 1))) r) (hacc : acc.length ≤ 6) :
    ∀ (d i : Nat), i + d = m.length → Ev (fun k => spec_sgTurn.l1 k m acc j (colTo m j i) x9 x10 m m.length i) r := by
  intro d
  induction d with
  | zero =>
    intro i hi
    refine Ev.step (fun k => by rw [spec_sgTurn.l1]) ?_
    refine Ev.ite_neg (by omega) (Ev.ite_pos (by omega) ?_)
    have hi2 : i = m.length := by omega
    subst hi2
    rw [hx10]
    exact hr
  | succ d ih =>
    intro i hi
    refine Ev.step (fun k => by rw [spec_sgTurn.l1]) ?_
    have hri : rd_L1 m (i : Int) = m.getD i [] := by rw [rd1_at m i (by omega), List.getD_eq_getElem?_getD, List.getElem?_eq_getElem (by omega)]; rfl
    rw [hri]
    refine Ev.ite_pos (by omega) (Ev.ite_pos (by omega) (Ev.ite_pos (by omega) (Ev.ite_pos (by omega) (Ev.ite_pos (by rw [h3 i (by omega)]; omega) (Ev.ite_pos (by rw [colTo_length]; omega) ?_)))))
    rw [wrapS i (by omega), ← colTo_succ]
    exact ih (i + 1) (by omega)
theorem sgTurn_l0 (m : List (List Int)) (hn : m.length ≤ 6) (h3 : ∀ i, i < m.length → (m.getD i []).length = m.length) :
    ∀ (d j : Nat), j + d = m.length → Ev (fun k => spec_sgTurn.l0 k m ((List.range j).map (colL m)) m.length j) ((List.range m.length).map (colL m)) := by
  intro d
  induction d with
  | zero =>
    intro j hj
    refine Ev.step (fun k => by rw [spec_sgTurn.l0]) ?_
    have hi2 : j = m.length := by omega
    subst hi2
    exact Ev.ite_neg (by omega) (Ev.now _)
  | succ d ih =>
    intro j hj
    refine Ev.step (fun k => by rw [spec_sgTurn.l0]) ?_
    refine Ev.ite_pos (by omega) ?_
    refine sgTurn_l1 m hn h3 _ j (by omega) _ _ rfl _ ?_ (by simp; omega) m.length 0 (by omega)
    have e : (List.range j).map (colL m) ++ [colL m j] = (List.range (j + 1)).map (colL m) := by simp [List.range_succ]
    rw [wrapS j (by omega), e]
    exact ih (j + 1) (by omega)
theorem all_and {l : List Nat} (f g : Nat → Bool) : (l.all fun i => f i && g i) = (l.all f && l.all g) := by
  induction l with
  | nil => rfl
  | cons a l ih => rw [List.all_cons, List.all_cons, List.all_cons, ih]; cases f a <;> cases g a <;> simp
theorem rows_all (m : List (List Int)) : ((List.range m.length).all fun i => altB (m.getD i [])) = m.all altB := by
  rw [Bool.eq_iff_iff, List.all_eq_true, List.all_eq_true]
  constructor
  · intro h r hr
    obtain ⟨i, hi, rfl⟩ := List.mem_iff_getElem.1 hr
    have := h i (List.mem_range.2 hi)
    rwa [List.getD_eq_getElem?_getD, List.getElem?_eq_getElem hi] at this
  · intro h i hi
    have hi2 := List.mem_range.1 hi
    rw [List.getD_eq_getElem?_getD, List.getElem?_eq_getElem hi2]
    exact h _ (List.getElem_mem hi2)
theorem isSign_eq (m : List (List Int)) : isSign m = (inB m.length 1 6 && (squareB m && (m.all altB && ((List.range m.length).map (colL m)).all altB))) := by
  unfold isSign signsFrom
  rw [Nat.sub_zero, ← List.range_eq_range', all_and, rows_all, List.all_map]; rfl
theorem sgGood_ev (m : List (List Int)) (hm : fewRows m) : Ev (fun k => spec_sgGood.f k m) (isSign m) := by
  unfold spec_sgGood.f spec_sgSquare.f
  rw [isSign_eq, l1In_eq]
  simp only [Option.bind_some]
  cases h1 : inB (m.length : Int) 1 6 with
  | false => exact Ev.now _
  | true =>
    have hb := (inB_iff _ _ _).1 h1
    have hn := hm.1
    refine Ev.bind (a := squareB m) ?_ ?_
    · have := sgSquare_l0 m hn m.length 0 (by omega)
      simpa [squareB] using this
    · cases h2 : squareB m with
      | false => exact Ev.now _
      | true =>
        have h3 : ∀ i, i < m.length → (m.getD i []).length = m.length := fun i hi => by
          rw [List.getD_eq_getElem?_getD, List.getElem?_eq_getElem hi]
          exact beq_iff_eq.1 (List.all_eq_true.1 h2 _ (List.getElem_mem hi))
        refine Ev.ite_pos rfl (Ev.bind (sgRows_ev m hm) ?_)
        cases h4 : m.all altB with
        | false => exact Ev.now _
        | true =>
          refine Ev.ite_pos rfl (Ev.bind (sgTurn_l0 m (by omega) h3 m.length 0 (by omega)) ?_)
          rw [Bool.true_and, Bool.true_and, Bool.true_and]
          refine (Ev.bind (sgRows_ev _ ⟨by simp; omega, fun r hr => ?_⟩) (Ev.now _))
          obtain ⟨j, _, rfl⟩ := List.mem_map.1 hr
          rw [colL_length]; omega
end Go.Proofs.Ytlpadkbpbmoliaa.L

namespace Go.Proofs.Ytlpadkbpbmoliaa.L
set_option linter.unusedVariables false
open Go.RowKit Go.Proofs.Ytlpadkbpbmoliaa Go.Proofs.Ytlpadkbpbmoliaa.P Go.Proofs.YtlpadkbpbmoliaaW.PrintWords Go.Proofs.YtlpadkbpbmoliaaW.PrintLast Go.Proofs.YtlpadkbpbmoliaaW.PrintMore

/-- The sums of the columns, when row i is read up to column j. -/
def colS (m : List (List Int)) (i j : Nat) : List Int := (List.range m.length).map fun t => ps (colL m t) (if t < j then i + 1 else i)
theorem colS_length (m : List (List Int)) (i j : Nat) : (colS m i j).length = m.length := by simp [colS]
theorem colS_rd (m : List (List Int)) (i j t : Nat) (h : t < m.length) : rd (colS m i j) (t : Int) = ps (colL m t) (if t < j then i + 1 else i) := by
  rw [rd_at _ _ (by rw [colS_length]; exact h)]; simp [colS]
theorem colS_end (m : List (List Int)) (i : Nat) : colS m i m.length = colS m (i + 1) 0 := by
  unfold colS
  apply List.map_congr_left
  intro t ht
  rw [if_pos (List.mem_range.1 ht), if_neg (by omega)]
theorem colS_set (m : List (List Int)) (i j : Nat) (hi : i < m.length) (hj : j < m.length) : (colS m i j).set j (ps (colL m j) i + rd (m.getD i []) j) = colS m i (j + 1) := by
  apply List.ext_getElem
  · simp [colS]
  · intro t h1 h2
    rw [colS_length] at h2
    rw [List.getElem_set]
    simp only [colS, List.getElem_map, List.getElem_range]
    by_cases e : j = t
    · subst e
      rw [if_pos rfl, if_pos (by omega), ps, rd_colL m i j hi]
    · rw [if_neg e]
      by_cases h : t < j
      · rw [if_pos h, if_pos (by omega)]
      · rw [if_neg h, if_neg (by omega)]
theorem rowL_succ (f : Nat → Nat → Int) (i j : Nat) : rowL f i (j + 1) = rowL f i j ++ [f i j] := by simp [rowL, List.range_succ]
theorem colS_zero (m : List (List Int)) : colS m 0 0 = List.replicate m.length 0 := by
  unfold colS
  rw [List.eq_replicate_iff]
  refine ⟨by simp, fun b hb => ?_⟩
  obtain ⟨t, _, rfl⟩ := List.mem_map.1 hb
  rw [if_neg (by omega)]; rfl

theorem weKinds_l1 (m : List (List Int)) (hs : isSign m = true) (acc : List (List Int)) (i : Nat) (hi : i < m.length) (r : List (List Int))
    (hr : ∀ x : Unit, Ev (fun k => spec_weKinds.l0 k (acc ++ [rowL (kF m) i m.length]) (colS m (i + 1) 0) m m.length (wrap64 ((i : Int) + 1))) r) (hacc : acc.length ≤ 6) :
    ∀ (d j : Nat), j + d = m.length → Ev (fun k => spec_weKinds.l1 k acc (colS m i j) (rowL (kF m) i j) (ps (m.getD i []) j) m m.length i (m.getD i []) (m.getD i []).length j) r := by
  obtain ⟨h1, h2, h3, h4⟩ := isSign_facts hs
  intro d
  induction d with
  | zero =>
    intro j hj
    refine Ev.step (fun k => by rw [spec_weKinds.l1]) ?_
    rw [h3 i hi]
    refine Ev.ite_neg (by omega) (Ev.ite_pos (by omega) ?_)
    have hj2 : j = m.length := by omega
    subst hj2
    rw [colS_end]
    exact hr ()
  | succ d ih =>
    intro j hj
    have hjn : j < m.length := by omega
    have hjr : j < (m.getD i []).length := by rw [h3 i hi]; exact hjn
    have a0 := alt_ps (h4 i hi).1 (j := j) (by omega)
    have a1 := alt_ps (h4 i hi).1 (j := j + 1) (by omega)
    have b0 := alt_ps (h4 j hjn).2 (j := i) (by rw [colL_length]; omega)
    have b1 := alt_ps (h4 j hjn).2 (j := i + 1) (by rw [colL_length]; omega)
    have x1 := alt_rd (h4 i hi).1 (j := j) hjr
    have hcs : rd (colS m i j) (j : Int) = ps (colL m j) i := by rw [colS_rd m i j j hjn, if_neg (by omega)]
    rw [ps] at b1
    rw [rd_colL m i j hi] at b1
    have e1 : wrap64 (ps (m.getD i []) j + rd (m.getD i []) j) = ps (m.getD i []) (j + 1) := by rw [ps]; exact wrap_small (by omega) (by omega)
    have e2 : wrap64 (rd (colS m i j) (j : Int) + rd (m.getD i []) j) = ps (colL m j) i + rd (m.getD i []) j := by rw [hcs]; exact wrap_small (by omega) (by omega)
    have e3 : wrap64 (wrap64 (2 * ps (m.getD i []) j) + rd (colS m i j) (j : Int)) = 2 * ps (m.getD i []) j + ps (colL m j) i := by
      rw [hcs, wrap_small (x := 2 * ps (m.getD i []) j) (by omega) (by omega)]; exact wrap_small (by omega) (by omega)
    have hz : (0 : Int) ≤ (j : Int) := by omega
    have hjz : (j : Int) < ((m.getD i []).length : Int) := by omega
    have hcl : (j : Int) < ((colS m i j).length : Int) := by rw [colS_length]; omega
    have hrw : (rowL (kF m) i j).length < 17592186044416 := by rw [rowL_length]; omega
    have hnext := ih (j + 1) (by omega)
    refine Ev.step (fun k => by rw [spec_weKinds.l1]) ?_
    refine Ev.ite_pos hjz (Ev.ite_pos hz (Ev.ite_pos hjz ?_))
    rw [e1, e2, e3, wrapS j (by omega), Int.toNat_natCast, colS_set m i j hi hjn]
    rw [rowL_succ] at hnext
    by_cases c1 : rd (m.getD i []) (j : Int) = 1
    · refine Ev.ite_pos c1 (Ev.ite_pos hrw (Ev.ite_pos hcl ?_))
      have : kF m i j = 4 := by unfold kF; rw [if_pos c1]
      rw [this] at hnext
      exact hnext
    · refine Ev.ite_neg c1 ?_
      by_cases c2 : rd (m.getD i []) (j : Int) = -1
      · refine Ev.ite_pos c2 (Ev.ite_pos hrw (Ev.ite_pos hcl ?_))
        have : kF m i j = 5 := by unfold kF; rw [if_neg c1, if_pos c2]
        rw [this] at hnext
        exact hnext
      · refine Ev.ite_neg c2 (Ev.ite_pos hcl (Ev.ite_pos hrw ?_))
        have : kF m i j = 2 * ps (m.getD i []) j + ps (colL m j) i := by unfold kF; rw [if_neg c1, if_neg c2]
        rw [this] at hnext
        exact hnext
theorem weKinds_l0 (m : List (List Int)) (hs : isSign m = true) : ∀ (d i : Nat), i + d = m.length → Ev (fun k => spec_weKinds.l0 k (tableL (kF m) i m.length) (colS m i 0) m m.length i) (kindsM m) := by
  obtain ⟨h1, h2, h3, h4⟩ := isSign_facts hs
  intro d
  induction d with
  | zero =>
    intro i hi
    refine Ev.step (fun k => by rw [spec_weKinds.l0]) ?_
    have hi2 : i = m.length := by omega
    subst hi2
    exact Ev.ite_neg (by omega) (Ev.now _)
  | succ d ih =>
    intro i hi
    refine Ev.step (fun k => by rw [spec_weKinds.l0]) ?_
    refine Ev.ite_pos (by omega) (Ev.ite_pos (by omega) (Ev.ite_pos (by omega) ?_))
    rw [rd1_get]
    refine weKinds_l1 m hs _ i (by omega) _ (fun _ => ?_) (by rw [tableL_length]; omega) m.length 0 (by omega)
    have e : tableL (kF m) i m.length ++ [rowL (kF m) i m.length] = tableL (kF m) (i + 1) m.length := by simp [tableL, List.range_succ]
    rw [e, wrapS i (by omega)]
    exact ih (i + 1) (by omega)
theorem weKinds_ev (m : List (List Int)) (hs : isSign m = true) : Ev (fun k => spec_weKinds.f k m) (kindsM m) := by
  have h2 := (isSign_facts hs).2.1
  unfold spec_weKinds.f
  refine Ev.ite_pos (by omega) (Ev.ite_pos (by omega) ?_)
  have := weKinds_l0 m hs m.length 0 (by omega)
  rw [colS_zero] at this
  exact this
end Go.Proofs.Ytlpadkbpbmoliaa.L

namespace Go.Proofs.Ytlpadkbpbmoliaa
open Go.RowKit Go.Proofs.YtlpadkbpbmoliaaW.PrintWords Go.Proofs.YtlpadkbpbmoliaaW.PrintLast Go.Proofs.YtlpadkbpbmoliaaW.PrintMore
set_option linter.unusedVariables false

/-- How often each kind is there. -/
def countsM (m : List (List Int)) : List Int := cntAll (kindsM m) (List.replicate 6 0)
theorem countsM_length (m : List (List Int)) : (countsM m).length = 6 := by rw [countsM, cntAll_length, List.length_replicate]
theorem kindsM_range {m : List (List Int)} (hs : isSign m = true) (i j : Nat) (hi : i < (kindsM m).length) (hj : j < ((kindsM m).getD i []).length) : 0 ≤ rd ((kindsM m).getD i []) j ∧ rd ((kindsM m).getD i []) j < 6 := by
  rw [kindsM, tableL_length] at hi
  rw [kindsM, tableL_get _ _ _ _ hi] at hj ⊢
  rw [rowL_length] at hj
  have e : rd (rowL (kF m) i m.length) (j : Int) = kF m i j := by rw [L.rd_at _ _ (by rw [rowL_length]; exact hj)]; simp [rowL]
  rw [e]
  have := kF_range hs hi hj
  omega
def impl_kindCounts.f (l0 : List (List Int)) : Option (List Int) := if isSign l0 = true then some (countsM l0) else none
theorem impl_kindCounts.calls (A0 : Option Addr) (c0 : Nat) (l0 : List (List Int)) (r : List Int) (w : World) (hr0 : Kd.C (Kd.slice 3 (Kd.int .i64)) w A0 l0.length l0) (hc0 : l0.length ≤ c0) (h : impl_kindCounts.f l0 = some r) :
    Calls Try.prog 66 #[.slice A0 l0.length c0] w fun e w' => ∃ v0_ : Value, e = .returned (v0_) ∧ Kd.R (Kd.int .i64) 3 w' w.heap.size (fun _ => True) v0_ r ∧ Below w.heap.size w w' := by
  unfold impl_kindCounts.f at h
  by_cases hs : isSign l0 = true
  · rw [if_pos hs] at h
    obtain rfl := Option.some.inj h
    exact impl_kindCounts.callsG A0 c0 l0 (kindsM l0) w (fun W hb => impl_kinds.calls A0 c0 l0 _ W (Kd.C_below hr0 hb) hc0 (by unfold impl_kinds.f; rw [if_pos hs])) (kindsM_range hs)
  · rw [if_neg hs] at h
    cases h
def spec_weCounts.f (l0 : List (List Int)) : Option (List Int) := if isSign l0 = true then some (countsM l0) else none
theorem spec_weCounts.calls (A0 : Option Addr) (c0 : Nat) (l0 : List (List Int)) (r : List Int) (w : World) (hr0 : Kd.C (Kd.slice 3 (Kd.int .i64)) w A0 l0.length l0) (hc0 : l0.length ≤ c0) (h : spec_weCounts.f l0 = some r) :
    Calls Try.prog 64 #[.slice A0 l0.length c0] w fun e w' => ∃ v0_ : Value, e = .returned (v0_) ∧ Kd.R (Kd.int .i64) 3 w' w.heap.size (fun _ => True) v0_ r ∧ Below w.heap.size w w' := by
  unfold spec_weCounts.f at h
  by_cases hs : isSign l0 = true
  · rw [if_pos hs] at h
    obtain rfl := Option.some.inj h
    obtain ⟨k, hk⟩ := (L.weKinds_ev l0 hs).rounds
    exact spec_weCounts.callsG A0 c0 l0 (kindsM l0) w (fun W hb => P.spec_weKinds.calls k A0 c0 l0 _ W (Kd.C_below hr0 hb) hc0 hk) (kindsM_range hs)
  · rw [if_neg hs] at h
    cases h
end Go.Proofs.Ytlpadkbpbmoliaa

namespace Go.Proofs.Ytlpadkbpbmoliaa.L
open Go.RowKit Go.Proofs.Ytlpadkbpbmoliaa Go.Proofs.Ytlpadkbpbmoliaa.P Go.Proofs.YtlpadkbpbmoliaaW.PrintWords Go.Proofs.YtlpadkbpbmoliaaW.PrintLast Go.Proofs.YtlpadkbpbmoliaaW.PrintMore
set_option linter.unusedVariables false

/-- The power, as the words hold it. -/
def pw (a : Int) : Nat → Int
  | 0 => 1
  | n + 1 => wrap64 (pw a n * a)
theorem impl_power_l0 (a n : Int) (h : n ≤ 9223372036854775807) : ∀ (d i : Nat), i + d = n.toNat → Ev (fun k => impl_power.l0 k a (pw a i) n i) (pw a n.toNat) := by
  intro d
  induction d with
  | zero =>
    intro i hi
    refine Ev.step (fun k => by rw [impl_power.l0]) ?_
    have e : i = n.toNat := by omega
    subst e
    exact Ev.ite_neg (by omega) (Ev.now _)
  | succ d ih =>
    intro i hi
    refine Ev.step (fun k => by rw [impl_power.l0]) ?_
    rw [wrapS i (by omega)]
    exact Ev.ite_pos (by omega) (ih (i + 1) (by omega))
theorem impl_power_ev (a n : Int) (h : n ≤ 9223372036854775807) : Ev (fun k => impl_power.f k a n) (pw a n.toNat) := impl_power_l0 a n h n.toNat 0 (by omega)
theorem spec_power_l0 (a : Int) : ∀ (d i : Nat), d ≤ 9223372036854775807 → Ev (fun k => spec_wePower.l0 k a d (pw a i)) (pw a (i + d)) := by
  intro d
  induction d with
  | zero =>
    intro i hd
    refine Ev.step (fun k => by rw [spec_wePower.l0]) ?_
    exact Ev.ite_neg (by omega) (Ev.now _)
  | succ d ih =>
    intro i hd
    refine Ev.step (fun k => by rw [spec_wePower.l0]) ?_
    refine Ev.ite_pos (by omega) ?_
    rw [show wrap64 (((d + 1 : Nat) : Int) - 1) = (d : Int) by unfold wrap64; omega, show i + (d + 1) = i + 1 + d by omega]
    exact ih (i + 1) (by omega)
theorem spec_power_ev (a n : Int) (h : n ≤ 9223372036854775807) : Ev (fun k => spec_wePower.f k a n) (pw a n.toNat) := by
  by_cases h0 : 0 ≤ n
  · have := spec_power_l0 a n.toNat 0 (by omega)
    rw [Nat.zero_add, Int.toNat_of_nonneg h0] at this
    exact this
  · unfold spec_wePower.f
    refine Ev.step (fun k => by rw [spec_wePower.l0]) ?_
    rw [show n.toNat = 0 by omega]
    exact Ev.ite_neg (by omega) (Ev.now _)
end Go.Proofs.Ytlpadkbpbmoliaa.L

namespace Go.Proofs.Ytlpadkbpbmoliaa
open Go.RowKit Go.Proofs.YtlpadkbpbmoliaaW.PrintWords Go.Proofs.YtlpadkbpbmoliaaW.PrintLast Go.Proofs.YtlpadkbpbmoliaaW.PrintMore
set_option linter.unusedVariables false
set_option linter.unusedSimpArgs false

def inW (x : Int) : Prop := -9223372036854775808 ≤ x ∧ x ≤ 9223372036854775807
theorem wrap_in (x : Int) : inW (wrap64 x) := by unfold inW wrap64; omega
theorem cnt1_in (c : List Int) (x : Int) (h : ∀ y ∈ c, inW y) : ∀ y ∈ cnt1 c x, inW y := by
  intro y hy
  rcases List.mem_or_eq_of_mem_set hy with h1 | h1
  · exact h y h1
  · rw [h1]; exact wrap_in _
theorem cntRow_in : ∀ (row c : List Int), (∀ y ∈ c, inW y) → ∀ y ∈ cntRow row c, inW y
  | [], c, h => h
  | x :: r, c, h => cntRow_in r (cnt1 c x) (cnt1_in c x h)
theorem cntAll_in : ∀ (T : List (List Int)) (c : List Int), (∀ y ∈ c, inW y) → ∀ y ∈ cntAll T c, inW y
  | [], c, h => h
  | r :: T, c, h => cntAll_in T (cntRow r c) (cntRow_in r c h)
theorem countsM_in (m : List (List Int)) (i : Nat) (hi : i < 6) : rd (countsM m) (i : Int) ≤ 9223372036854775807 := by
  rw [L.rd_at _ _ (by rw [countsM_length]; exact hi)]
  exact (cntAll_in (kindsM m) (List.replicate 6 0) (fun y hy => by rw [(List.mem_replicate.1 hy).2]; exact ⟨by decide, by decide⟩) _ (List.getElem_mem _)).2
/-- The weight. -/
def weightC (c : List Int) (x y z : Int) : Int := wrap64 (wrap64 (L.pw x (wrap64 (rd c 0 + rd c 3)).toNat * L.pw y (wrap64 (rd c 1 + rd c 2)).toNat) * L.pw z (rd c 5).toNat)

theorem spec_wePower.calls' (a n : Int) (w : World) (h : n ≤ 9223372036854775807) :
    Calls Try.prog 118 #[.int .i64 a, .int .i64 n] w fun e w' => e = .returned (.int .i64 (L.pw a n.toNat)) ∧ Drawn0 w w' := by
  obtain ⟨k, hk⟩ := (L.spec_power_ev a n h).rounds
  exact P.spec_wePower.calls k a n _ w hk
set_option maxHeartbeats 4000000 in
theorem spec_weWeight.callsG (A0 : Option Addr) (c0 : Nat) (l0 : List (List Int)) (a1 a2 a3 : Int) (w : World) (hs : isSign l0 = true) (hr0 : Kd.C (Kd.slice 3 (Kd.int .i64)) w A0 l0.length l0) (hc0 : l0.length ≤ c0) :
    Calls Try.prog 72 #[.slice A0 l0.length c0, .int .i64 a1, .int .i64 a2, .int .i64 a3] w fun e w' => e = .returned (.int .i64 (weightC (countsM l0) a1 a2 a3)) ∧ Below w.heap.size w w' := by
  have hcnt := spec_weCounts.calls A0 c0 l0 (countsM l0) w hr0 hc0 (by unfold spec_weCounts.f; rw [if_pos hs])
  have h5 := countsM_in l0 5 (by omega)
  have hcl := countsM_length l0
  clear hr0 hc0 hs
  obtain ⟨c, hc⟩ : ∃ c, c = countsM l0 := ⟨_, rfl⟩
  rw [← hc] at hcnt h5 hcl ⊢
  clear hc
  have HE := Aside0.mk (show weightC c a1 a2 a3 = wrap64 (wrap64 (L.pw a1 (wrap64 (rd c 0 + rd c 3)).toNat * L.pw a2 (wrap64 (rd c 1 + rd c 2)).toNat) * L.pw a3 (rd c 5).toNat) from rfl)
  have hp1 := fun W => spec_wePower.calls' a1 (wrap64 (rd c 0 + rd c 3)) W (wrap_in _).2
  have hp2 := fun W => spec_wePower.calls' a2 (wrap64 (rd c 1 + rd c 2)) W (wrap_in _).2
  have hp3 := fun W => spec_wePower.calls' a3 (rd c 5) W h5
  obtain ⟨x0, e0⟩ : ∃ x, x = rd c 0 := ⟨_, rfl⟩
  obtain ⟨x1, e1⟩ : ∃ x, x = rd c 1 := ⟨_, rfl⟩
  obtain ⟨x2, e2⟩ : ∃ x, x = rd c 2 := ⟨_, rfl⟩
  obtain ⟨x3, e3⟩ : ∃ x, x = rd c 3 := ⟨_, rfl⟩
  obtain ⟨x5, e5⟩ : ∃ x, x = rd c 5 := ⟨_, rfl⟩
  have hget : ∀ (w1 : World) (A2 : Option Addr) (c2 : Nat), Kd.R (Kd.int .i64) 3 w1 w.heap.size (fun _ => True) (.slice A2 c.length c2) c → ∃ g, A2 = some ⟨g, 0, none⟩ ∧ w1.cell? ⟨g, 0, none⟩ = some (.int .i64 x0) ∧ w1.cell? ⟨g, 1, none⟩ = some (.int .i64 x1) ∧ w1.cell? ⟨g, 2, none⟩ = some (.int .i64 x2) ∧ w1.cell? ⟨g, 3, none⟩ = some (.int .i64 x3) ∧ w1.cell? ⟨g, 5, none⟩ = some (.int .i64 x5) := by
    intro w1 A2 c2 hR
    have hC := (Kd.R_reads' hR).2.2
    obtain ⟨ad, q0, y0⟩ := Kd.at_int hC 0 (by omega) (by omega)
    cases q0
    obtain ⟨g, rfl⟩ := Kd.R_head hR
    obtain ⟨_, q1, y1⟩ := Kd.at_int hC 1 (by omega) (by omega)
    cases q1
    obtain ⟨_, q1, y2⟩ := Kd.at_int hC 2 (by omega) (by omega)
    cases q1
    obtain ⟨_, q1, y3⟩ := Kd.at_int hC 3 (by omega) (by omega)
    cases q1
    obtain ⟨_, q1, y5⟩ := Kd.at_int hC 5 (by omega) (by omega)
    cases q1
    rw [← e0] at y0
    rw [← e1] at y1
    rw [← e2] at y2
    rw [← e3] at y3
    rw [← e5] at y5
    exact ⟨g, rfl, y0, y1, y2, y3, y5⟩
  rw [← e0, ← e1, ← e2, ← e3, ← e5] at HE
  rw [← e0, ← e3] at hp1
  rw [← e1, ← e2] at hp2
  rw [← e5] at hp3
  clear e0 e1 e2 e3 e5 h5
  simp only [← i64_w] at hp1 hp2 HE
  have HG := Aside0.mk hget
  have HL := Aside0.mk hcl
  clear hget
  go_enter Try.func72, Try.ntmps72
  go_wp2_with (go_at_call 64; refine hcnt.mono ?_; rintro e w1 ⟨v, rfl, hR, hb⟩; obtain ⟨A2, c2, rfl⟩ := Kd.R_slice hR; obtain ⟨g, rfl, y0, y1, y2, y3, y5⟩ := HG.out _ _ _ hR; have HB := Aside0.mk hb; clear hR hb)
  go_region_held3 (fun W => W.cell? ⟨g, 0, none⟩ = some (.int .i64 x0) ∧ W.cell? ⟨g, 1, none⟩ = some (.int .i64 x1) ∧ W.cell? ⟨g, 2, none⟩ = some (.int .i64 x2) ∧ W.cell? ⟨g, 3, none⟩ = some (.int .i64 x3) ∧ W.cell? ⟨g, 5, none⟩ = some (.int .i64 x5) ∧ Below w.heap.size w W) (first | (refine ⟨by simp [*], by simp [*], by simp [*], by simp [*], by simp [*], ?_⟩; repeat (first | assumption | exact HB.out | apply below_drew | apply pw_below_drewN))) (first | (go_at_call 118; (with_reducible refine (hp1 _).mono ?_); rintro e w2 ⟨rfl, ⟨nd1, rfl⟩⟩) | (go_at_call 118; (with_reducible refine (hp2 _).mono ?_); rintro e w2 ⟨rfl, ⟨nd2, rfl⟩⟩) | (go_at_call 118; (with_reducible refine (hp3 _).mono ?_); rintro e w2 ⟨rfl, ⟨nd3, rfl⟩⟩))
  all_goals
    go_wp2
    go_ret
    exact ⟨by first | rfl | (rw [HE.out]; rfl), by repeat (first | exact HB.out | apply below_drew | apply pw_below_drewN)⟩

theorem impl_power.calls' (a n : Int) (w : World) (h : n ≤ 9223372036854775807) :
    Calls Try.prog 119 #[.int .i64 a, .int .i64 n] w fun e w' => e = .returned (.int .i64 (L.pw a n.toNat)) ∧ Drawn0 w w' := by
  obtain ⟨k, hk⟩ := (L.impl_power_ev a n h).rounds
  exact P.impl_power.calls k a n _ w hk
set_option maxHeartbeats 4000000 in
theorem impl_weight.callsG (A0 : Option Addr) (c0 : Nat) (l0 : List (List Int)) (a1 a2 a3 : Int) (w : World) (hs : isSign l0 = true) (hr0 : Kd.C (Kd.slice 3 (Kd.int .i64)) w A0 l0.length l0) (hc0 : l0.length ≤ c0) :
    Calls Try.prog 74 #[.slice A0 l0.length c0, .int .i64 a1, .int .i64 a2, .int .i64 a3] w fun e w' => e = .returned (.int .i64 (weightC (countsM l0) a1 a2 a3)) ∧ Below w.heap.size w w' := by
  have hcnt := impl_kindCounts.calls A0 c0 l0 (countsM l0) w hr0 hc0 (by unfold impl_kindCounts.f; rw [if_pos hs])
  have h5 := countsM_in l0 5 (by omega)
  have hcl := countsM_length l0
  clear hr0 hc0 hs
  obtain ⟨c, hc⟩ : ∃ c, c = countsM l0 := ⟨_, rfl⟩
  rw [← hc] at hcnt h5 hcl ⊢
  clear hc
  have HE := Aside0.mk (show weightC c a1 a2 a3 = wrap64 (wrap64 (L.pw a1 (wrap64 (rd c 0 + rd c 3)).toNat * L.pw a2 (wrap64 (rd c 1 + rd c 2)).toNat) * L.pw a3 (rd c 5).toNat) from rfl)
  have hp1 := fun W => impl_power.calls' a1 (wrap64 (rd c 0 + rd c 3)) W (wrap_in _).2
  have hp2 := fun W => impl_power.calls' a2 (wrap64 (rd c 1 + rd c 2)) W (wrap_in _).2
  have hp3 := fun W => impl_power.calls' a3 (rd c 5) W h5
  obtain ⟨x0, e0⟩ : ∃ x, x = rd c 0 := ⟨_, rfl⟩
  obtain ⟨x1, e1⟩ : ∃ x, x = rd c 1 := ⟨_, rfl⟩
  obtain ⟨x2, e2⟩ : ∃ x, x = rd c 2 := ⟨_, rfl⟩
  obtain ⟨x3, e3⟩ : ∃ x, x = rd c 3 := ⟨_, rfl⟩
  obtain ⟨x5, e5⟩ : ∃ x, x = rd c 5 := ⟨_, rfl⟩
  have hget : ∀ (w1 : World) (A2 : Option Addr) (c2 : Nat), Kd.R (Kd.int .i64) 3 w1 w.heap.size (fun _ => True) (.slice A2 c.length c2) c → ∃ g, A2 = some ⟨g, 0, none⟩ ∧ w1.cell? ⟨g, 0, none⟩ = some (.int .i64 x0) ∧ w1.cell? ⟨g, 1, none⟩ = some (.int .i64 x1) ∧ w1.cell? ⟨g, 2, none⟩ = some (.int .i64 x2) ∧ w1.cell? ⟨g, 3, none⟩ = some (.int .i64 x3) ∧ w1.cell? ⟨g, 5, none⟩ = some (.int .i64 x5) := by
    intro w1 A2 c2 hR
    have hC := (Kd.R_reads' hR).2.2
    obtain ⟨ad, q0, y0⟩ := Kd.at_int hC 0 (by omega) (by omega)
    cases q0
    obtain ⟨g, rfl⟩ := Kd.R_head hR
    obtain ⟨_, q1, y1⟩ := Kd.at_int hC 1 (by omega) (by omega)
    cases q1
    obtain ⟨_, q1, y2⟩ := Kd.at_int hC 2 (by omega) (by omega)
    cases q1
    obtain ⟨_, q1, y3⟩ := Kd.at_int hC 3 (by omega) (by omega)
    cases q1
    obtain ⟨_, q1, y5⟩ := Kd.at_int hC 5 (by omega) (by omega)
    cases q1
    rw [← e0] at y0
    rw [← e1] at y1
    rw [← e2] at y2
    rw [← e3] at y3
    rw [← e5] at y5
    exact ⟨g, rfl, y0, y1, y2, y3, y5⟩
  rw [← e0, ← e1, ← e2, ← e3, ← e5] at HE
  rw [← e0, ← e3] at hp1
  rw [← e1, ← e2] at hp2
  rw [← e5] at hp3
  clear e0 e1 e2 e3 e5 h5
  simp only [← i64_w] at hp1 hp2 HE
  have HG := Aside0.mk hget
  have HL := Aside0.mk hcl
  clear hget
  go_enter Try.func74, Try.ntmps74
  go_wp2_with (go_at_call 66; refine hcnt.mono ?_; rintro e w1 ⟨v, rfl, hR, hb⟩; obtain ⟨A2, c2, rfl⟩ := Kd.R_slice hR; obtain ⟨g, rfl, y0, y1, y2, y3, y5⟩ := HG.out _ _ _ hR; have HB := Aside0.mk hb; clear hR hb)
  go_region_held3 (fun W => W.cell? ⟨g, 0, none⟩ = some (.int .i64 x0) ∧ W.cell? ⟨g, 1, none⟩ = some (.int .i64 x1) ∧ W.cell? ⟨g, 2, none⟩ = some (.int .i64 x2) ∧ W.cell? ⟨g, 3, none⟩ = some (.int .i64 x3) ∧ W.cell? ⟨g, 5, none⟩ = some (.int .i64 x5) ∧ Below w.heap.size w W) (first | (refine ⟨by simp [*], by simp [*], by simp [*], by simp [*], by simp [*], ?_⟩; repeat (first | assumption | exact HB.out | apply below_drew | apply pw_below_drewN))) (first | (go_at_call 119; (with_reducible refine (hp1 _).mono ?_); rintro e w2 ⟨rfl, ⟨nd1, rfl⟩⟩) | (go_at_call 119; (with_reducible refine (hp2 _).mono ?_); rintro e w2 ⟨rfl, ⟨nd2, rfl⟩⟩) | (go_at_call 119; (with_reducible refine (hp3 _).mono ?_); rintro e w2 ⟨rfl, ⟨nd3, rfl⟩⟩))
  all_goals
    go_wp2
    go_ret
    exact ⟨by first | rfl | (rw [HE.out]; rfl), by repeat (first | exact HB.out | apply below_drew | apply pw_below_drewN)⟩

def spec_weWeight.f (l0 : List (List Int)) (a1 a2 a3 : Int) : Option Int := if isSign l0 = true then some (weightC (countsM l0) a1 a2 a3) else none
theorem spec_weWeight.calls (A0 : Option Addr) (c0 : Nat) (l0 : List (List Int)) (a1 : Int) (a2 : Int) (a3 : Int) (r : Int) (w : World) (hr0 : Kd.C (Kd.slice 3 (Kd.int .i64)) w A0 l0.length l0) (hc0 : l0.length ≤ c0) (h : spec_weWeight.f l0 a1 a2 a3 = some r) :
    Calls Try.prog 72 #[.slice A0 l0.length c0, .int .i64 a1, .int .i64 a2, .int .i64 a3] w fun e w' => e = .returned (.int .i64 r) ∧ Below w.heap.size w w' := by
  unfold spec_weWeight.f at h
  by_cases hs : isSign l0 = true
  · rw [if_pos hs] at h
    obtain rfl := Option.some.inj h
    exact spec_weWeight.callsG A0 c0 l0 a1 a2 a3 w hs hr0 hc0
  · rw [if_neg hs] at h
    cases h

def impl_weight.f (l0 : List (List Int)) (a1 a2 a3 : Int) : Option Int := if isSign l0 = true then some (weightC (countsM l0) a1 a2 a3) else none
theorem impl_weight.calls (A0 : Option Addr) (c0 : Nat) (l0 : List (List Int)) (a1 : Int) (a2 : Int) (a3 : Int) (r : Int) (w : World) (hr0 : Kd.C (Kd.slice 3 (Kd.int .i64)) w A0 l0.length l0) (hc0 : l0.length ≤ c0) (h : impl_weight.f l0 a1 a2 a3 = some r) :
    Calls Try.prog 74 #[.slice A0 l0.length c0, .int .i64 a1, .int .i64 a2, .int .i64 a3] w fun e w' => e = .returned (.int .i64 r) ∧ Below w.heap.size w w' := by
  unfold impl_weight.f at h
  by_cases hs : isSign l0 = true
  · rw [if_pos hs] at h
    obtain rfl := Option.some.inj h
    exact impl_weight.callsG A0 c0 l0 a1 a2 a3 w hs hr0 hc0
  · rw [if_neg hs] at h
    cases h
end Go.Proofs.Ytlpadkbpbmoliaa

namespace Go.Proofs.Ytlpadkbpbmoliaa.L
open Go.RowKit Go.Proofs.Ytlpadkbpbmoliaa Go.Proofs.Ytlpadkbpbmoliaa.P Go.Proofs.YtlpadkbpbmoliaaW.PrintWords Go.Proofs.YtlpadkbpbmoliaaW.PrintLast Go.Proofs.YtlpadkbpbmoliaaW.PrintMore
set_option linter.unusedVariables false

theorem l1All_l0 (l : List Int) (a b : Int) (hl : l.length ≤ 35184372088832) : ∀ (d i : Nat), i + d = l.length → Ev (fun k => spec_l1All.l0 k a b l l.length i) ((l.drop i).all fun x => inB x a b) := by
  intro d
  induction d with
  | zero =>
    intro i hi
    refine Ev.step (fun k => by rw [spec_l1All.l0]) ?_
    rw [List.drop_eq_nil_of_le (by omega)]
    exact Ev.ite_neg (by omega) (Ev.now _)
  | succ d ih =>
    intro i hi
    refine Ev.step (fun k => by rw [spec_l1All.l0]) ?_
    refine Ev.ite_pos (by omega) (Ev.ite_pos (by omega) (Ev.ite_pos (by omega) ?_))
    rw [l1In_eq, rd_at l i (by omega), List.drop_eq_getElem_cons (by omega), List.all_cons]
    simp only [Option.bind_some]
    cases h : inB l[i] a b with
    | true =>
      refine Ev.ite_pos rfl ?_
      rw [wrapS i (by omega), Bool.true_and]
      exact ih (i + 1) (by omega)
    | false => exact Ev.ite_neg (by simp) (Ev.now _)
theorem l1All_ev (l : List Int) (a b : Int) (hl : l.length ≤ 35184372088832) : Ev (fun k => spec_l1All.f k l a b) (l.all fun x => inB x a b) := l1All_l0 l a b hl l.length 0 (by omega)
end Go.Proofs.Ytlpadkbpbmoliaa.L
