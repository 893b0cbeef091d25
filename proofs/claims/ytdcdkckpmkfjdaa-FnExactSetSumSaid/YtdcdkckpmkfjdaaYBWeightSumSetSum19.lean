/- Texts of one chain, in build order. -/
import Derived.Test.YtdcdkckpmkfjdaaYBWeightSumSetSum18
import Derived.Test.YtdcdkckpmkfjdaaWMore
namespace Go.Proofs.Ytdcdkckpmkfjdaa.L
open Go.RowKit Go.Proofs.Ytdcdkckpmkfjdaa Go.Proofs.Ytdcdkckpmkfjdaa.P Go.Proofs.YtdcdkckpmkfjdaaW.PrintWords Go.Proofs.YtdcdkckpmkfjdaaW.PrintLast Go.Proofs.YtdcdkckpmkfjdaaW.PrintMore
set_option linter.unusedVariables false

/-- The columns whose sum down to row i is one, among the first j. -/
def setRow (m : List (List Int)) (i : Nat) : Nat → List Int
 | 0 => []
 | j + 1 => if ps (colL m j) (i + 1) = 1 then setRow m i j ++ [(j : Int)] else setRow m i j
theorem setRow_le (m : List (List Int)) (i : Nat) : ∀ j, (setRow m i j).length ≤ j
 | 0 => Nat.le_refl _
 | j + 1 => by
  have := setRow_le m i j
  unfold setRow
  split
  ·rw [List.length_append, List.length_singleton]; omega
  ·omega
def trianTo (m : List (List Int)) (i : Nat) : List (List Int) := (List.range i).map fun i => setRow m i m.length
def trianM (m : List (List Int)) : List (List Int) := trianTo m m.length
theorem trianTo_succ (m : List (List Int)) (i : Nat) : trianTo m i ++ [setRow m i m.length] = trianTo m (i + 1) := by simp [trianTo, List.range_succ]
theorem trianTo_length (m : List (List Int)) (i : Nat) : (trianTo m i).length = i := by simp [trianTo]

theorem weSets_l1 (m : List (List Int)) (hs : isSign m = true) (acc : List (List Int)) (i : Nat) (hi : i < m.length) (r : List (List Int))
  (hr : Ev (fun k => spec_weSets.l0 k (acc ++ [setRow m i m.length]) (colS m (i + 1) 0) m m.length (wrap64 ((i : Int) + 1))) r) (hacc : acc.length ≤ 6) :
  ∀ (d j : Nat), j + d = m.length → Ev (fun k => spec_weSets.l1 k acc (colS m i j) (setRow m i j) m m.length i (m.getD i []) (m.getD i []).length j) r := by
 obtain ⟨h1, h2, h3, h4⟩ := isSign_facts hs
 intro d
 induction d with
 | zero =>
  intro j hj
  refine Ev.step (fun k => by rw [spec_weSets.l1]) ?_
  rw [h3 i hi]
  refine Ev.ite_neg (by omega) (Ev.ite_pos (by omega) ?_)
  have hj2 : j = m.length := by omega
  subst hj2
  rw [colS_end]
  exact hr
 | succ d ih =>
  intro j hj
  have hjn : j < m.length := by omega
  have hjr : j < (m.getD i []).length := by rw [h3 i hi]; exact hjn
  have b0 := alt_ps (h4 j hjn).2 (j := i) (by rw [colL_length]; omega)
  have b1 := alt_ps (h4 j hjn).2 (j := i + 1) (by rw [colL_length]; omega)
  have hcs : rd (colS m i j) (j : Int) = ps (colL m j) i := by rw [colS_rd m i j j hjn, if_neg (by omega)]
  have hb2 : ps (colL m j) (i + 1) = ps (colL m j) i + rd (m.getD i []) j := by rw [ps, rd_colL m i j hi]
  have e2 : wrap64 (rd (colS m i j) (j : Int) + rd (m.getD i []) j) = ps (colL m j) i + rd (m.getD i []) j := by rw [hcs]; exact wrap_small (by omega) (by omega)
  have hcs2 : rd (colS m i (j + 1)) (j : Int) = ps (colL m j) (i + 1) := by rw [colS_rd m i (j + 1) j hjn, if_pos (by omega)]
  have hz : (0 : Int) ≤ (j : Int) := by omega
  have hjz : (j : Int) < ((m.getD i []).length : Int) := by omega
  have hcl : (j : Int) < ((colS m i j).length : Int) := by rw [colS_length]; omega
  have hrw : (setRow m i j).length < 17592186044416 := by have := setRow_le m i j; omega
  have hnext := ih (j + 1) (by omega)
  refine Ev.step (fun k => by rw [spec_weSets.l1]) ?_
  refine Ev.ite_pos hjz (Ev.ite_pos hz (Ev.ite_pos hjz (Ev.ite_pos hcl ?_)))
  rw [e2, wrapS j (by omega), Int.toNat_natCast, colS_set m i j hi hjn]
  simp only [Option.bind_some]
  rw [hcs2]
  by_cases c1 : ps (colL m j) (i + 1) = 1
  ·rw [setRow, if_pos c1] at hnext
   exact Ev.ite_pos c1 (Ev.ite_pos hrw hnext)
  ·rw [setRow, if_neg c1] at hnext
   exact Ev.ite_neg c1 hnext
theorem weSets_l0 (m : List (List Int)) (hs : isSign m = true) : ∀ (d i : Nat), i + d = m.length → Ev (fun k => spec_weSets.l0 k (trianTo m i) (colS m i 0) m m.length i) (trianM m) := by
 obtain ⟨h1, h2, h3, h4⟩ := isSign_facts hs
 intro d
 induction d with
 | zero =>
  intro i hi
  refine Ev.step (fun k => by rw [spec_weSets.l0]) ?_
  have hi2 : i = m.length := by omega
  subst hi2
  exact Ev.ite_neg (by omega) (Ev.now _)
 | succ d ih =>
  intro i hi
  refine Ev.step (fun k => by rw [spec_weSets.l0]) ?_
  refine Ev.ite_pos (by omega) (Ev.ite_pos (by omega) (Ev.ite_pos (by omega) ?_))
  rw [rd1_get]
  refine weSets_l1 m hs _ i (by omega) _ ?_ (by rw [trianTo_length]; omega) m.length 0 (by omega)
  rw [trianTo_succ, wrapS i (by omega)]
  exact ih (i + 1) (by omega)
theorem weSets_ev (m : List (List Int)) (hs : isSign m = true) : Ev (fun k => spec_weSets.f k m) (trianM m) := by
 have h2 := (isSign_facts hs).2.1
 unfold spec_weSets.f
 refine Ev.ite_pos (by omega) (Ev.ite_pos (by omega) ?_)
 have := weSets_l0 m hs m.length 0 (by omega)
 rw [colS_zero] at this
 exact this

theorem column_l0 (m : List (List Int)) (hn : m.length ≤ 6) (h3 : ∀ i, i < m.length → (m.getD i []).length = m.length) (j : Nat) (hj : j < m.length) : ∀ (d i : Nat), i + d = m.length → Ev (fun k => impl_column.l0 k j (colTo m j i) m m.length i) (colL m j) := by
 intro d
 induction d with
 | zero =>
  intro i hi
  refine Ev.step (fun k => by rw [impl_column.l0]) ?_
  have hi2 : i = m.length := by omega
  subst hi2
  exact Ev.ite_neg (by omega) (Ev.now _)
 | succ d ih =>
  intro i hi
  refine Ev.step (fun k => by rw [impl_column.l0]) ?_
  rw [rd1_get]
  refine Ev.ite_pos (by omega) (Ev.ite_pos (by omega) (Ev.ite_pos (by omega) (Ev.ite_pos (by omega) (Ev.ite_pos (by rw [h3 i (by omega)]; omega) (Ev.ite_pos (by rw [colTo_length]; omega) ?_)))))
  rw [wrapS i (by omega), ← colTo_succ]
  exact ih (i + 1) (by omega)
theorem column_ev (m : List (List Int)) (hn : m.length ≤ 6) (h3 : ∀ i, i < m.length → (m.getD i []).length = m.length) (j : Nat) (hj : j < m.length) : Ev (fun k => impl_column.f k m j) (colL m j) := column_l0 m hn h3 j hj m.length 0 (by omega)
theorem triangle_l1 (m : List (List Int)) (hs : isSign m = true) (acc : List (List Int)) (i : Nat) (hi : i < m.length) (r : List (List Int))
  (hr : Ev (fun k => impl_triangle.l0 k m (acc ++ [setRow m i m.length]) m.length (wrap64 ((i : Int) + 1))) r) (hacc : acc.length ≤ 6) :
  ∀ (d j : Nat), j + d = m.length → Ev (fun k => impl_triangle.l1 k m acc i (setRow m i j) m.length i m.length j) r := by
 obtain ⟨h1, h2, h3, h4⟩ := isSign_facts hs
 intro d
 induction d with
 | zero =>
  intro j hj
  refine Ev.step (fun k => by rw [impl_triangle.l1]) ?_
  refine Ev.ite_neg (by omega) (Ev.ite_pos (by omega) ?_)
  have hj2 : j = m.length := by omega
  subst hj2
  exact hr
 | succ d ih =>
  intro j hj
  have hjn : j < m.length := by omega
  have hrw : (setRow m i j).length < 17592186044416 := by have := setRow_le m i j; omega
  have hnext := ih (j + 1) (by omega)
  refine Ev.step (fun k => by rw [impl_triangle.l1]) ?_
  refine Ev.ite_pos (by omega) (Ev.bind (column_ev m (by omega) h3 j hjn) ?_)
  rw [wrapS i (by omega), wrapS j (by omega), Int.toNat_natCast]
  refine Ev.ite_pos (by omega) (Ev.ite_pos (by rw [colL_length]; omega) (Ev.some_bind (a := ps (colL m j) (i + 1)) ?_ ?_))
  ·show some (sumW _) = _
   rw [sumW_take (h4 j hjn).2 (by rw [colL_length]; omega)]
  ·by_cases c1 : ps (colL m j) (i + 1) = 1
   ·rw [setRow, if_pos c1] at hnext
    exact Ev.ite_pos c1 (Ev.ite_pos hrw hnext)
   ·rw [setRow, if_neg c1] at hnext
    exact Ev.ite_neg c1 hnext
theorem triangle_l0 (m : List (List Int)) (hs : isSign m = true) : ∀ (d i : Nat), i + d = m.length → Ev (fun k => impl_triangle.l0 k m (trianTo m i) m.length i) (trianM m) := by
 obtain ⟨h1, h2, h3, h4⟩ := isSign_facts hs
 intro d
 induction d with
 | zero =>
  intro i hi
  refine Ev.step (fun k => by rw [impl_triangle.l0]) ?_
  have hi2 : i = m.length := by omega
  subst hi2
  exact Ev.ite_neg (by omega) (Ev.now _)
 | succ d ih =>
  intro i hi
  refine Ev.step (fun k => by rw [impl_triangle.l0]) ?_
  refine Ev.ite_pos (by omega) ?_
  refine triangle_l1 m hs _ i (by omega) _ ?_ (by rw [trianTo_length]; omega) m.length 0 (by omega)
  rw [trianTo_succ, wrapS i (by omega)]
  exact ih (i + 1) (by omega)
theorem triangle_ev (m : List (List Int)) (hs : isSign m = true) : Ev (fun k => impl_triangle.f k m) (trianM m) := triangle_l0 m hs m.length 0 (by omega)
end Go.Proofs.Ytdcdkckpmkfjdaa.L

namespace Go.Proofs.Ytdcdkckpmkfjdaa.L
open Go.RowKit Go.Proofs.Ytdcdkckpmkfjdaa Go.Proofs.Ytdcdkckpmkfjdaa.P Go.Proofs.YtdcdkckpmkfjdaaW.PrintWords Go.Proofs.YtdcdkckpmkfjdaaW.PrintLast Go.Proofs.YtdcdkckpmkfjdaaW.PrintMore
set_option linter.unusedVariables false

theorem alt_last {l : List Int} (h : altB l = true) : ps l l.length = 1 := by
 have h1 := (alt_from l h l.length (Nat.le_refl _)).1
 rw [List.drop_length, altFrom] at h1
 exact beq_iff_eq.1 h1
/-- The sum of the first j column sums down to row i. -/
def totTo (m : List (List Int)) (i : Nat) : Nat → Int
 | 0 => 0
 | j + 1 => totTo m i j + ps (colL m j) i
theorem totTo_succ (m : List (List Int)) (i : Nat) (hi : i < m.length) : ∀ j, totTo m (i + 1) j = totTo m i j + ps (m.getD i []) j
 | 0 => by simp [totTo, ps]
 | j + 1 => by
  rw [totTo, totTo, totTo_succ m i hi j, ps, ps, rd_colL m i j hi]
  omega
theorem totTo_zero (m : List (List Int)) : ∀ j, totTo m 0 j = 0
 | 0 => rfl
 | j + 1 => by rw [totTo, totTo_zero m j, ps]; rfl
theorem totTo_all {m : List (List Int)} (hs : isSign m = true) : ∀ i, i ≤ m.length → totTo m i m.length = i
 | 0, _ => totTo_zero m _
 | i + 1, hi => by
  obtain ⟨h1, h2, h3, h4⟩ := isSign_facts hs
  have ha := alt_last (h4 i hi).1
  rw [h3 i hi] at ha
  rw [totTo_succ m i hi, totTo_all hs i (by omega), ha]
  omega
theorem setRow_tot {m : List (List Int)} (hs : isSign m = true) (i : Nat) (hi : i < m.length) : ∀ j, j ≤ m.length → ((setRow m i j).length : Int) = totTo m (i + 1) j
 | 0, _ => rfl
 | j + 1, hj => by
  have ih := setRow_tot hs i hi j (by omega)
  have hb := alt_ps ((isSign_facts hs).2.2.2 j hj).2 (j := i + 1) (by rw [colL_length]; omega)
  rw [totTo, setRow]
  split
  ·rename_i h
   rw [List.length_append, List.length_singleton, h]
   omega
  ·rename_i h
   rw [ih, show ps (colL m j) (i + 1) = 0 by omega]
   omega
/-- Row i of the triangle has i + 1 places. -/
theorem setRow_length {m : List (List Int)} (hs : isSign m = true) (i : Nat) (hi : i < m.length) : (setRow m i m.length).length = i + 1 := by
 have := setRow_tot hs i hi m.length (Nat.le_refl _)
 rw [totTo_all hs (i + 1) hi] at this
 omega
end Go.Proofs.Ytdcdkckpmkfjdaa.L
