import Derived.Test.YtlpadkbpbmoliaaHP1
import Derived.Test.YtlpadkbpbmoliaaHC
import Derived.Test.YtlpadkbpbmoliaaPx59
import Derived.Test.YtlpadkbpbmoliaaPx104
import Derived.Test.YtlpadkbpbmoliaaPx80
namespace Go.Proofs.Ytlpadkbpbmoliaa.L
open Go.RowKit Go.Proofs.Ytlpadkbpbmoliaa Go.Proofs.Ytlpadkbpbmoliaa.P Go.Proofs.YtlpadkbpbmoliaaW.PrintWords Go.Proofs.YtlpadkbpbmoliaaW.PrintLast Go.Proofs.YtlpadkbpbmoliaaW.PrintMore
set_option linter.unusedVariables false

/-- The columns whose sum down to row i is one, among the first j. -/
def setRow (m : List (List Int)) (i : Nat) : Nat → List Int
  | 0 => []
  | j + 1 => if ps (colL m j) (i + 1) = 1 then setRow m i j ++ [(j : Int)] else setRow m i j
theorem setRow_le (m : List (List Int)) (i : Nat) : ∀ j, (setRow m i j).length ≤ j
  | 0 => Nat.le_refl _
  | j + 1 => by
    have := setRow_le m i j
    unfold setRow
    split
    · rw [List.length_append, List.length_singleton]; omega
    · omega
def trianTo (m : List (List Int)) (i : Nat) : List (List Int) := (List.range i).map fun i => setRow m i m.length
def trianM (m : List (List Int)) : List (List Int) := trianTo m m.length
theorem trianTo_succ (m : List (List Int)) (i : Nat) : trianTo m i ++ [setRow m i m.length] = trianTo m (i + 1) := by simp [trianTo, List.range_succ]
theorem trianTo_length (m : List (List Int)) (i : Nat) : (trianTo m i).length = i := by simp [trianTo]

theorem weSets_l1 (m : List (List Int)) (hs : isSign m = true) (acc : List (List Int)) (i : Nat) (hi : i < m.length) (r : List (List Int))
    (hr : Ev (fun k => spec_weSets.l0 k (acc ++ [setRow m i m.length]) (colS m (i + 1) 0) m m.length (wrap64 ((i : Int) + 1))) r) (hacc : acc.length ≤ 6) :
    ∀ (d j : Nat), j + d = m.length → Ev (fun k => spec_weSets.l1 k acc (colS m i j) (setRow m i j) m m.length i (m.getD i []) (m.getD i []).length j) r := by
  obtain ⟨h1, h2, h3, h4⟩ := isSign_facts hs
  intro d
  induction d with
  | zero =>
    intro j hj
    refine Ev.step (fun k => by rw [spec_weSets.l1]) ?_
    rw [h3 i hi]
    refine Ev.ite_neg (by omega) (Ev.ite_pos (by omega) ?_)
    have hj2 : j = m.length := by omega
    subst hj2
    rw [colS_end]
    exact hr
  | succ d ih =>
    intro j hj
    have hjn : j < m.length := by omega
    have hjr : j < (m.getD i []).length := by rw [h3 i hi]; exact hjn
    have b0 := alt_ps (h4 j hjn).2 (j := i) (by rw [colL_length]; omega)
    have b1 := alt_ps (h4 j hjn).2 (j := i + 1) (by rw [colL_length]; omega)
    have hcs : rd (colS m i j) (j : Int) = ps (colL m j) i := by rw [colS_rd m i j j hjn, if_neg (by omega)]
    have hb2 : ps (colL m j) (i + 1) = ps (colL m j) i + rd (m.getD i []) j := by rw [ps, rd_colL m i j hi]
    have e2 : wrap64 (rd (colS m i j) (j : Int) + rd (m.getD i []) j) = ps (colL m j) i + rd (m.getD i []) j := by rw [hcs]; exact wrap_small (by omega) (by omega)
    have hcs2 : rd (colS m i (j + 1)) (j : Int) = ps (colL m j) (i + 1) := by rw [colS_rd m i (j + 1) j hjn, if_pos (by omega)]
    have hz : (0 : Int) ≤ (j : Int) := by omega
    have hjz : (j : Int) < ((m.getD i []).length : Int) := by omega
    have hcl : (j : Int) < ((colS m i j).length : Int) := by rw [colS_length]; omega
    have hrw : (setRow m i j).length < 17592186044416 := by have := setRow_le m i j; omega
    have hnext := ih (j + 1) (by omega)
    refine Ev.step (fun k => by rw [spec_weSets.l1]) ?_
    refine Ev.ite_pos hjz (Ev.ite_pos hz (Ev.ite_pos hjz (Ev.ite_pos hcl ?_)))
    rw [e2, wrapS j (by omega), Int.toNat_natCast, colS_set m i j hi hjn]
    simp only [Option.bind_some]
    rw [hcs2]
    by_cases c1 : ps (colL m j) (i + 1) = 1
    · rw [setRow, if_pos c1] at hnext
      exact Ev.ite_pos c1 (Ev.ite_pos hrw hnext)
    · rw [setRow, if_neg c1] at hnext
      exact Ev.ite_neg c1 hnext
theorem weSets_l0 (m : List (List Int)) (hs : isSign m = true) : ∀ (d i : Nat), i + d = m.length → Ev (fun k => spec_weSets.l0 k (trianTo m i) (colS m i 0) m m.length i) (trianM m) := by
  obtain ⟨h1, h2, h3, h4⟩ := isSign_facts hs
  intro d
  induction d with
  | zero =>
    intro i hi
    refine Ev.step (fun k => by rw [spec_weSets.l0]) ?_
    have hi2 : i = m.length := by omega
    subst hi2
    exact Ev.ite_neg (by omega) (Ev.now _)
  | succ d ih =>
    intro i hi
    refine Ev.step (fun k => by rw [spec_weSets.l0]) ?_
    refine Ev.ite_pos (by omega) (Ev.ite_pos (by omega) (Ev.ite_pos (by omega) ?_))
    rw [rd1_get]
    refine weSets_l1 m hs _ i (by omega) _ ?_ (by rw [trianTo_length]; omega) m.length 0 (by omega)
    rw [trianTo_succ, wrapS i (by omega)]
    exact ih (i + 1) (by omega)
theorem weSets_ev (m : List (List Int)) (hs : isSign m = true) : Ev (fun k => spec_weSets.f k m) (trianM m) := by
  have h2 := (isSign_facts hs).2.1
  unfold spec_weSets.f
  refine Ev.ite_pos (by omega) (Ev.ite_pos (by omega) ?_)
  have := weSets_l0 m hs m.length 0 (by omega)
  rw [colS_zero] at this
  exact this

theorem column_l0 (m : List (List Int)) (hn : m.length ≤ 6) (h3 : ∀ i, i < m.length → (m.getD i []).length = m.length) (j : Nat) (hj : j < m.length) : ∀ (d i : Nat), i + d = m.length → Ev (fun k => impl_column.l0 k j (colTo m j i) m m.length i) (colL m j) := by
  intro d
  induction d with
  | zero =>
    intro i hi
    refine Ev.step (fun k => by rw [impl_column.l0]) ?_
    have hi2 : i = m.length := by omega
    subst hi2
    exact Ev.ite_neg (by omega) (Ev.now _)
  | succ d ih =>
    intro i hi
    refine Ev.step (fun k => by rw [impl_column.l0]) ?_
    rw [rd1_get]
    refine Ev.ite_pos (by omega) (Ev.ite_pos (by omega) (Ev.ite_pos (by omega) (Ev.ite_pos (by omega) (Ev.ite_pos (by rw [h3 i (by omega)]; omega) (Ev.ite_pos (by rw [colTo_length]; omega) ?_)))))
    rw [wrapS i (by omega), ← colTo_succ]
    exact ih (i + 1) (by omega)
theorem column_ev (m : List (List Int)) (hn : m.length ≤ 6) (h3 : ∀ i, i < m.length → (m.getD i []).length = m.length) (j : Nat) (hj : j < m.length) : Ev (fun k => impl_column.f k m j) (colL m j) := column_l0 m hn h3 j hj m.length 0 (by omega)
theorem triangle_l1 (m : List (List Int)) (hs : isSign m = true) (acc : List (List Int)) (i : Nat) (hi : i < m.length) (r : List (List Int))
    (hr : Ev (fun k => impl_triangle.l0 k m (acc ++ [setRow m i m.length]) m.length (wrap64 ((i : Int) + 1))) r) (hacc : acc.length ≤ 6) :
    ∀ (d j : Nat), j + d = m.length → Ev (fun k => impl_triangle.l1 k m acc i (setRow m i j) m.length i m.length j) r := by
  obtain ⟨h1, h2, h3, h4⟩ := isSign_facts hs
  intro d
  induction d with
  | zero =>
    intro j hj
    refine Ev.step (fun k => by rw [impl_triangle.l1]) ?_
    refine Ev.ite_neg (by omega) (Ev.ite_pos (by omega) ?_)
    have hj2 : j = m.length := by omega
    subst hj2
    exact hr
  | succ d ih =>
    intro j hj
    have hjn : j < m.length := by omega
    have hrw : (setRow m i j).length < 17592186044416 := by have := setRow_le m i j; omega
    have hnext := ih (j + 1) (by omega)
    refine Ev.step (fun k => by rw [impl_triangle.l1]) ?_
    refine Ev.ite_pos (by omega) (Ev.bind (column_ev m (by omega) h3 j hjn) ?_)
    rw [wrapS i (by omega), wrapS j (by omega), Int.toNat_natCast]
    refine Ev.ite_pos (by omega) (Ev.ite_pos (by rw [colL_length]; omega) (Ev.some_bind (a := ps (colL m j) (i + 1)) ?_ ?_))
    · show some (sumW _) = _
      rw [sumW_take (h4 j hjn).2 (by rw [colL_length]; omega)]
    · by_cases c1 : ps (colL m j) (i + 1) = 1
      · rw [setRow, if_pos c1] at hnext
        exact Ev.ite_pos c1 (Ev.ite_pos hrw hnext)
      · rw [setRow, if_neg c1] at hnext
        exact Ev.ite_neg c1 hnext
theorem triangle_l0 (m : List (List Int)) (hs : isSign m = true) : ∀ (d i : Nat), i + d = m.length → Ev (fun k => impl_triangle.l0 k m (trianTo m i) m.length i) (trianM m) := by
  obtain ⟨h1, h2, h3, h4⟩ := isSign_facts hs
  intro d
  induction d with
  | zero =>
    intro i hi
    refine Ev.step (fun k => by rw [impl_triangle.l0]) ?_
    have hi2 : i = m.length := by omega
    subst hi2
    exact Ev.ite_neg (by omega) (Ev.now _)
  | succ d ih =>
    intro i hi
    refine Ev.step (fun k => by rw [impl_triangle.l0]) ?_
    refine Ev.ite_pos (by omega) ?_
    refine triangle_l1 m hs _ i (by omega) _ ?_ (by rw [trianTo_length]; omega) m.length 0 (by omega)
    rw [trianTo_succ, wrapS i (by omega)]
    exact ih (i + 1) (by omega)
theorem triangle_ev (m : List (List Int)) (hs : isSign m = true) : Ev (fun k => impl_triangle.f k m) (trianM m) := triangle_l0 m hs m.length 0 (by omega)
end Go.Proofs.Ytlpadkbpbmoliaa.L

namespace Go.Proofs.Ytlpadkbpbmoliaa.L
open Go.RowKit Go.Proofs.Ytlpadkbpbmoliaa Go.Proofs.Ytlpadkbpbmoliaa.P Go.Proofs.YtlpadkbpbmoliaaW.PrintWords Go.Proofs.YtlpadkbpbmoliaaW.PrintLast Go.Proofs.YtlpadkbpbmoliaaW.PrintMore
set_option linter.unusedVariables false

theorem alt_last {l : List Int} (h : altB l = true) : ps l l.length = 1 := by
  have h1 := (alt_from l h l.length (Nat.le_refl _)).1
  rw [List.drop_length, altFrom] at h1
  exact beq_iff_eq.1 h1
/-- The sum of the first j column sums down to row i. -/
def totTo (m : List (List Int)) (i : Nat) : Nat → Int
  | 0 => 0
  | j + 1 => totTo m i j + ps (colL m j) i
theorem totTo_succ (m : List (List Int)) (i : Nat) (hi : i < m.length) : ∀ j, totTo m (i + 1) j = totTo m i j + ps (m.getD i []) j
  | 0 => by simp [totTo, ps]
  | j + 1 => by
    rw [totTo, totTo, totTo_succ m i hi j, ps, ps, rd_colL m i j hi]
    omega
theorem totTo_zero (m : List (List Int)) : ∀ j, totTo m 0 j = 0
  | 0 => rfl
  | j + 1 => by rw [totTo, totTo_zero m j, ps]; rfl
theorem totTo_all {m : List (List Int)} (hs : isSign m = true) : ∀ i, i ≤ m.length → totTo m i m.length = i
  | 0, _ => totTo_zero m _
  | i + 1, hi => by
    obtain ⟨h1, h2, h3, h4⟩ := isSign_facts hs
    have ha := alt_last (h4 i hi).1
    rw [h3 i hi] at ha
    rw [totTo_succ m i hi, totTo_all hs i (by omega), ha]
    omega
theorem setRow_tot {m : List (List Int)} (hs : isSign m = true) (i : Nat) (hi : i < m.length) : ∀ j, j ≤ m.length → ((setRow m i j).length : Int) = totTo m (i + 1) j
  | 0, _ => rfl
  | j + 1, hj => by
    have ih := setRow_tot hs i hi j (by omega)
    have hb := alt_ps ((isSign_facts hs).2.2.2 j hj).2 (j := i + 1) (by rw [colL_length]; omega)
    rw [totTo, setRow]
    split
    · rename_i h
      rw [List.length_append, List.length_singleton, h]
      omega
    · rename_i h
      rw [ih, show ps (colL m j) (i + 1) = 0 by omega]
      omega
/-- Row i of the triangle has i + 1 places. -/
theorem setRow_length {m : List (List Int)} (hs : isSign m = true) (i : Nat) (hi : i < m.length) : (setRow m i m.length).length = i + 1 := by
  have := setRow_tot hs i hi m.length (Nat.le_refl _)
  rw [totTo_all hs (i + 1) hi] at this
  omega
end Go.Proofs.Ytlpadkbpbmoliaa.L

namespace Go.Proofs.Ytlpadkbpbmoliaa.L
open Go.RowKit Go.Proofs.Ytlpadkbpbmoliaa Go.Proofs.Ytlpadkbpbmoliaa.P Go.Proofs.YtlpadkbpbmoliaaW.PrintWords Go.Proofs.YtlpadkbpbmoliaaW.PrintLast Go.Proofs.YtlpadkbpbmoliaaW.PrintMore
set_option linter.unusedVariables false

theorem wrap_off (a : Int) : ∃ k : Int, wrap64 a = a + k * 18446744073709551616 := ⟨-((a + 9223372036854775808) / 18446744073709551616), by unfold wrap64; omega⟩
theorem wrap_add (a k : Int) : wrap64 (a + k * 18446744073709551616) = wrap64 a := by unfold wrap64; omega
theorem wrap_mul (a b : Int) : wrap64 (wrap64 a * b) = wrap64 (a * b) := by
  obtain ⟨k, hk⟩ := wrap_off a
  rw [hk, show (a + k * 18446744073709551616) * b = a * b + (k * b) * 18446744073709551616 by rw [Int.add_mul, Int.mul_assoc k, Int.mul_comm 18446744073709551616 b, ← Int.mul_assoc]]
  exact wrap_add _ _
theorem wrap_mul' (a b : Int) : wrap64 (a * wrap64 b) = wrap64 (a * b) := by rw [Int.mul_comm, wrap_mul, Int.mul_comm]
theorem wrap_wrap (a : Int) : wrap64 (wrap64 a) = wrap64 a := by unfold wrap64; omega
/-- The factor of place j of row i, and the product of the first j. -/
def fac (T : List (List Int)) (q : Int) (i j : Nat) : Int :=
  if i + 1 = T.length then 1 else if rd (T.getD i []) j = rd (T.getD (i + 1) []) j then q else if rd (T.getD i []) j = rd (T.getD (i + 1) []) (j + 1 : Nat) then 1 else 1 + q
def facP (T : List (List Int)) (q : Int) (i : Nat) : Nat → Int
  | 0 => 1
  | j + 1 => facP T q i j * fac T q i j
/-- The sum of the row ahead. -/
def ahead (T : List (List Int)) : Nat → Int
  | 0 => 0
  | i + 1 => sumW (T.getD i [])
def setW (T : List (List Int)) (xs : List Int) (q : Int) : Nat → Int
  | 0 => 1
  | i + 1 => wrap64 (setW T xs q i * (facP T q i (T.getD i []).length * pw (rd xs i) (wrap64 (sumW (T.getD i []) - ahead T i)).toNat))
theorem setW_wrap (T : List (List Int)) (xs : List Int) (q : Int) : ∀ i, wrap64 (setW T xs q i) = setW T xs q i
  | 0 => by rw [setW]; unfold wrap64; omega
  | i + 1 => by rw [setW, wrap_wrap]
theorem setWeight_l1 (T : List (List Int)) (xs : List Int) (q : Int) (i : Nat) (hi : i < T.length) (hn : T.length ≤ 6) (hlen : ∀ i, i < T.length → (T.getD i []).length = i + 1) (hx : xs.length = T.length) (r : Int)
    (hr : Ev (fun k => spec_weSetWeight.l0 k xs q T (setW T xs q (i + 1)) (sumW (T.getD i [])) T T.length (wrap64 ((i : Int) + 1))) r) :
    ∀ (d j : Nat), j + d = (T.getD i []).length → Ev (fun k => spec_weSetWeight.l1 k xs q T (wrap64 (setW T xs q i * facP T q i j)) (ahead T i) i (sumTo (T.getD i []) j) T T.length i (T.getD i []) (T.getD i []).length j) r := by
  intro d
  induction d with
  | zero =>
    intro j hj
    refine Ev.step (fun k => by rw [spec_weSetWeight.l1]) ?_
    have e : j = (T.getD i []).length := by omega
    rw [← e]
    refine Ev.ite_neg (by omega) (Ev.ite_pos (by omega) (Ev.ite_pos (by omega) (Ev.bind (spec_power_ev _ _ (by unfold wrap64; omega)) ?_)))
    have e2 : sumTo (T.getD i []) j = sumW (T.getD i []) := by unfold sumW; rw [e]
    rw [e2, wrap_mul, Int.mul_assoc]
    have e3 : wrap64 (setW T xs q i * (facP T q i j * pw (rd xs i) (wrap64 (sumW (T.getD i []) - ahead T i)).toNat)) = setW T xs q (i + 1) := by rw [setW, e]
    rw [e3]
    exact hr
  | succ d ih =>
    intro j hj
    have hl := hlen i hi
    have hz : (0 : Int) ≤ (j : Int) := by omega
    have hjz : (j : Int) < ((T.getD i []).length : Int) := by omega
    have hnext := ih (j + 1) (by omega)
    rw [facP, ← Int.mul_assoc, sumTo] at hnext
    refine Ev.step (fun k => by rw [spec_weSetWeight.l1]) ?_
    refine Ev.ite_pos hjz (Ev.ite_pos hz (Ev.ite_pos hjz ?_))
    rw [wrapS i (by omega), wrapS j (by omega)]
    by_cases c1 : i + 1 = T.length
    · have hf : fac T q i j = 1 := by unfold fac; rw [if_pos c1]
      rw [hf, Int.mul_one] at hnext
      exact Ev.ite_pos (by omega) hnext
    · have hl2 := hlen (i + 1) (by omega)
      have hrow : rd_L1 T ((i + 1 : Nat) : Int) = T.getD (i + 1) [] := rd1_get T (i + 1)
      rw [hrow]
      refine Ev.ite_neg (by omega) (Ev.ite_pos (by omega) (Ev.ite_pos (by omega) (Ev.ite_pos (by omega) ?_)))
      by_cases c2 : rd (T.getD i []) (j : Int) = rd (T.getD (i + 1) []) (j : Int)
      · have hf : fac T q i j = q := by unfold fac; rw [if_neg c1, if_pos c2]
        rw [hf] at hnext
        rw [wrap_mul]
        exact Ev.ite_pos c2 hnext
      · refine Ev.ite_neg c2 (Ev.ite_pos (by omega) (Ev.ite_pos (by omega) ?_))
        by_cases c3 : rd (T.getD i []) (j : Int) = rd (T.getD (i + 1) []) ((j + 1 : Nat) : Int)
        · have hf : fac T q i j = 1 := by unfold fac; rw [if_neg c1, if_neg c2, if_pos c3]
          rw [hf, Int.mul_one] at hnext
          exact Ev.ite_pos c3 hnext
        · have hf : fac T q i j = 1 + q := by unfold fac; rw [if_neg c1, if_neg c2, if_neg c3]
          rw [hf] at hnext
          rw [wrap_mul, wrap_mul']
          exact Ev.ite_neg c3 hnext
theorem setWeight_l0 (T : List (List Int)) (xs : List Int) (q : Int) (hn : T.length ≤ 6) (hlen : ∀ i, i < T.length → (T.getD i []).length = i + 1) (hx : xs.length = T.length) :
    ∀ (d i : Nat), i + d = T.length → Ev (fun k => spec_weSetWeight.l0 k xs q T (setW T xs q i) (ahead T i) T T.length i) (setW T xs q T.length) := by
  intro d
  induction d with
  | zero =>
    intro i hi
    refine Ev.step (fun k => by rw [spec_weSetWeight.l0]) ?_
    have hi2 : i = T.length := by omega
    subst hi2
    exact Ev.ite_neg (by omega) (Ev.now _)
  | succ d ih =>
    intro i hi
    refine Ev.step (fun k => by rw [spec_weSetWeight.l0]) ?_
    refine Ev.ite_pos (by omega) (Ev.ite_pos (by omega) (Ev.ite_pos (by omega) ?_))
    rw [rd1_get]
    have h := setWeight_l1 T xs q i (by omega) hn hlen hx (setW T xs q T.length) (by rw [wrapS i (by omega)]; exact ih (i + 1) (by omega)) (T.getD i []).length 0 (by omega)
    rw [facP, Int.mul_one, setW_wrap] at h
    exact h
theorem weSetWeight_ev (m : List (List Int)) (hs : isSign m = true) (xs : List Int) (q : Int) (hx : xs.length = m.length) : Ev (fun k => spec_weSetWeight.f k m xs q) (setW (trianM m) xs q m.length) := by
  have h2 := (isSign_facts hs).2.1
  have hl : (trianM m).length = m.length := trianTo_length _ _
  have hlen : ∀ i, i < (trianM m).length → ((trianM m).getD i []).length = i + 1 := fun i hi => by
    rw [hl] at hi
    have e : (trianM m).getD i [] = setRow m i m.length := by simp [trianM, trianTo, List.getD_eq_getElem?_getD, hi]
    rw [e, setRow_length hs i hi]
  unfold spec_weSetWeight.f
  refine Ev.bind (weSets_ev m hs) ?_
  have := setWeight_l0 (trianM m) xs q (by omega) hlen (by omega) m.length 0 (by omega)
  rw [hl] at this ⊢
  exact this
theorem facP_last (T : List (List Int)) (q : Int) (i : Nat) (h : i + 1 = T.length) : ∀ j, facP T q i j = 1
  | 0 => rfl
  | j + 1 => by rw [facP, facP_last T q i h j, fac, if_pos h]; rfl
theorem setW_last (T : List (List Int)) (xs : List Int) (q : Int) (i : Nat) (h : i + 1 = T.length) : setW T xs q T.length = wrap64 (setW T xs q i * pw (rd xs i) (wrap64 (sumW (T.getD i []) - ahead T i)).toNat) := by
  have e : setW T xs q T.length = setW T xs q (i + 1) := congrArg _ h.symm
  rw [e, setW, facP_last T q i h, Int.one_mul]
end Go.Proofs.Ytlpadkbpbmoliaa.L

namespace Go.Proofs.Ytlpadkbpbmoliaa
open Go.RowKit Go.Proofs.YtlpadkbpbmoliaaW.PrintWords Go.Proofs.YtlpadkbpbmoliaaW.PrintLast Go.Proofs.YtlpadkbpbmoliaaW.PrintMore
open L (setW facP fac pw)
set_option linter.unusedVariables false
set_option linter.unusedSimpArgs false

set_option maxHeartbeats 8000000 in
set_option maxRecDepth 100000 in
theorem impl_setWeight.callsG (A0 : Option Addr) (c0 : Nat) (l0 : List (List Int)) (A1 : Option Addr) (c1 : Nat) (xs : List Int) (q : Int) (w : World) (T : List (List Int)) (h1 : 1 ≤ T.length) (hn : T.length ≤ 6) (hlen : ∀ i, i < T.length → (T.getD i []).length = i + 1) (hxl : xs.length = T.length) (hq0 : 0 ≤ q) (hq4 : q ≤ 4)
    (htr : Calls Try.prog 104 #[.slice A0 l0.length c0] w (RetS w T)) (hr1 : Kd.C (Kd.int .i64) w A1 xs.length xs) :
    Calls Try.prog 82 #[.slice A0 l0.length c0, .slice A1 xs.length c1, .int .i64 q] w fun e w' => e = .returned (.int .i64 (setW T xs q T.length)) ∧ Below w.heap.size w w' := by
  have HLEN := Aside0.mk hlen
  have HR1 := Aside0.mk hr1
  have HXL := Aside0.mk hxl
  clear hlen hr1 hxl
  go_enter Try.func82, Try.ntmps82
  go_wp2_with (go_at_call 104; refine htr.mono ?_; rintro e w1 ⟨v, rfl, hS, hb⟩; obtain ⟨AT, cT, rfl⟩ := Kd.R_slice (Kd.S_R hS); have HT := Aside0.mk (Kd.R_reads' (Kd.S_R hS)).2.2; have HB := Aside0.mk hb; clear hS hb)
  go_loopg [8, 9, 10, 11, 12, 13, 14, 19] T.length (fun gg s8 s9 s10 s11 s12 s13 s14 s19 wr => ∃ i : Nat, i < T.length ∧ T.length - i ≤ gg ∧ s19 = .int .i64 i ∧ s8 = .int .i64 (setW T xs q i) ∧ Aside0 (Below w1.heap.size w1 wr))
  case atStart => exact ⟨0, by omega, by omega, rfl, rfl, ⟨Below.refl _ _⟩⟩
  case round =>
    obtain ⟨i, hlt, hg, rfl, rfl, HW⟩ := hrel
    have hz : (i : Int) < (T.length : Int) := by omega
    obtain ⟨ad, Ar, cr, e0, hx, _, hrow⟩ := rowsAt HT.out i hlt
    cases e0
    replace hx := pw_cell_below HW.out hx
    have hrl := HLEN.out i hlt
    obtain ⟨ar, er, _⟩ := Kd.at_int hrow (0 : Nat) (by omega) (by omega)
    cases er
    have HROW := Aside0.mk hrow
    have HSM := Aside0.mk (fun W (hb : Below w1.heap.size w1 W) => impl_sum.calls' (some ar) cr (T.getD i []) W (Kd.C_below hrow hb))
    have hxi : i < xs.length := by rw [HXL.out]; exact hlt
    have hxz : (i : Int) < (xs.length : Int) := by omega
    obtain ⟨ax, e1, hy⟩ := Kd.at_int HR1.out (i : Int) (by omega) hxz
    cases e1
    simp only [Int.toNat_natCast] at hy
    replace hy := pw_cell_below (below_then HB.out HB.out.size HW.out) hy
    have HSL := Aside0.mk (L.setW_last T xs q i)
    have HSW := Aside0.mk (show setW T xs q (i + 1) = wrap64 (setW T xs q i * (facP T q i (T.getD i []).length * pw (rd xs i) (wrap64 (sumW (T.getD i []) - L.ahead T i)).toNat)) from rfl)
    obtain ⟨sm, hsm⟩ : ∃ z, z = sumW (T.getD i []) := ⟨_, rfl⟩
    have hsr : -9223372036854775808 ≤ sm ∧ sm ≤ 9223372036854775807 := by
      have hw_ : ∀ j, -9223372036854775808 ≤ sumTo (T.getD i []) j ∧ sumTo (T.getD i []) j ≤ 9223372036854775807 := fun j => by
        cases j with
        | zero => rw [sumTo]; omega
        | succ k => rw [sumTo]; exact wrap_in _
      rw [hsm]; exact hw_ _
    rw [← hsm] at HSW HSL HSM
    obtain ⟨xi, hxi2⟩ : ∃ z, z = rd xs i := ⟨_, rfl⟩
    rw [← hxi2] at hy HSW HSL
    obtain ⟨b0, hb0⟩ : ∃ z, z = setW T xs q i := ⟨_, rfl⟩
    rw [← hb0] at HSW HSL ⊢
    clear hsm hxi2 hb0 hxi
    have hrowz : ((T.getD i []).length : Int) = i + 1 := by omega
    obtain ⟨row, hrw⟩ : ∃ r, r = T.getD i [] := ⟨_, rfl⟩
    have HRW := Aside0.mk hrw
    rw [← hrw] at hx hrowz HSM HROW HSW hrl
    have hrl1 : row.length ≤ i + 1 := by omega
    have hrl2 : i + 1 ≤ row.length := by omega
    clear hrw hrow hrl
    by_cases hi0 : i = 0
    · have hmo : wrap64 (sm - L.ahead T i) = sm := by
        rw [hi0, L.ahead, Int.sub_zero]; unfold wrap64; omega
      rw [hmo] at HSW HSL
      have hi1 : (i : Int) < 1 := by omega
      have hs1 := HSM.out wr HW.out
      have hpw := fun W => impl_power.calls' xi sm W (by omega)
      obtain ⟨pp, hpp⟩ : ∃ z, z = pw xi sm.toNat := ⟨_, rfl⟩
      rw [← hpp] at hpw HSW HSL
      clear hi0 hmo hpp
      by_cases hla : i + 1 = T.length
      · have HE := Aside0.mk (show setW T xs q T.length = wrap64 (b0 * pp) from HSL.out hla)
        have hla1 : (i : Int) + 1 ≤ (T.length : Int) := by omega
        have hla2 : (T.length : Int) ≤ (i : Int) + 1 := by omega
        have hlb : ((i : Int) + 1 == (T.length : Int)) = true := by rw [beq_iff_eq]; omega
        clear hla
        skip
        go_wp2_with (first | (go_at_call 106; (with_reducible refine hs1.mono ?_); rintro e w2 ⟨rfl, rfl⟩) | (go_at_call 119; (with_reducible refine (hpw _).mono ?_); rintro e w2 ⟨rfl, ⟨nd, rfl⟩⟩))
        go_ret
        exact ⟨by rw [HE.out]; first | rfl | simp, by have := HW.out; repeat (first | exact below_then HB.out HB.out.size HW.out | apply below_drew | apply pw_below_drewN)⟩
      · have hla2 : (i : Int) + 1 < (T.length : Int) := by omega
        have hlb : ((i : Int) + 1 == (T.length : Int)) = false := by rw [beq_eq_false_iff_ne]; omega
        obtain ⟨ad', An, cn, e0, hxn, _, hnrow⟩ := rowsAt HT.out (i + 1) (by omega)
        cases e0
        replace hxn := pw_cell_below HW.out hxn
        have hnl := HLEN.out (i + 1) (by omega)
        obtain ⟨an, er, _⟩ := Kd.at_int hnrow (0 : Nat) (by omega) (by omega)
        cases er
        have HNR := Aside0.mk hnrow
        have HFC := Aside0.mk (fun j : Nat => show fac T q i j = if i + 1 = T.length then 1 else if rd (T.getD i []) j = rd (T.getD (i + 1) []) j then q else if rd (T.getD i []) j = rd (T.getD (i + 1) []) (j + 1 : Nat) then 1 else 1 + q from rfl)
        have HLA := Aside0.mk hla
        rw [← HRW.out] at HFC
        obtain ⟨nxt, hnx⟩ : ∃ r, r = T.getD (i + 1) [] := ⟨_, rfl⟩
        rw [← hnx] at hxn HNR HFC hnl
        have hnl1 : nxt.length ≤ i + 2 := by omega
        have hnl2 : i + 2 ≤ nxt.length := by omega
        clear hla hnx hnrow hnl
        skip
        go_wp2_with (first | (go_at_call 106; (with_reducible refine hs1.mono ?_); rintro e w2 ⟨rfl, rfl⟩) | (go_at_call 119; (with_reducible refine (hpw _).mono ?_); rintro e w2 ⟨rfl, ⟨nd, rfl⟩⟩))
        go_loopg [8, 12, 13, 14, 51] row.length (fun gj s8 s12 s13 s14 s51 wr2 => ∃ (j : Nat) (y : Int), j ≤ row.length ∧ row.length - j ≤ gj ∧ s51 = .int .i64 j ∧ s8 = .int .i64 y ∧ Aside0 (y = wrap64 (b0 * (facP T q i j * pp))) ∧ Aside0 (Below w1.heap.size w1 wr2))
        case atStart => exact ⟨0, wrap64 (b0 * pp), Nat.zero_le _, Nat.le_refl _, rfl, rfl, ⟨by rw [facP, Int.one_mul]⟩, ⟨by repeat (first | exact HW.out | apply below_drew | apply pw_below_drewN)⟩⟩
        case round =>
          obtain ⟨j, y, hj, hgj, rfl, rfl, HY, HW2⟩ := hrel
          by_cases hjt : j < row.length
          · have hjz : (j : Int) < (row.length : Int) := by omega
            obtain ⟨ar', e2, hr⟩ := Kd.at_int HROW.out (j : Int) (by omega) hjz
            cases e2
            obtain ⟨an', e3, hn0⟩ := Kd.at_int HNR.out (j : Int) (by omega) (by omega)
            cases e3
            obtain ⟨an', e3, hn1⟩ := Kd.at_int HNR.out ((j + 1 : Nat) : Int) (by omega) (by omega)
            cases e3
            simp only [Int.toNat_natCast] at hr hn0 hn1
            replace hr := pw_cell_below HW2.out hr
            replace hn0 := pw_cell_below HW2.out hn0
            replace hn1 := pw_cell_below HW2.out hn1
            have hxn2 : wr.cell? (ad.add (i + 1)) = some (.slice (some an) nxt.length cn) := by
              have hh := HT.out
              obtain ⟨ad'', An', cn', e0, hxn', _, hnrow'⟩ := rowsAt hh (i + 1) (by omega)
              cases e0
              have h3 := pw_cell_below HW2.out hxn'
              have h4 := pw_cell_below HW.out hxn'
              rw [h3, ← h4, hxn]
            rw [Addr.add_succ'] at hxn2 hn1
            have HF := Aside0.mk (HFC.out j)
            have HP := Aside0.mk (show facP T q i (j + 1) = facP T q i j * fac T q i j from rfl)
            obtain ⟨x, hxx⟩ : ∃ x, x = rd row (j : Int) := ⟨_, rfl⟩
            obtain ⟨n0, hnn0⟩ : ∃ x, x = rd nxt (j : Int) := ⟨_, rfl⟩
            obtain ⟨n1, hnn1⟩ : ∃ x, x = rd nxt ((j + 1 : Nat) : Int) := ⟨_, rfl⟩
            rw [← hxx] at hr HF
            rw [← hnn0] at hn0 HF
            rw [← hnn1] at hn1 HF
            clear hxx hnn0 hnn1
            have HMUL := Aside0.mk (fun f : Int => show fac T q i j = f → wrap64 (y * f) = wrap64 (b0 * (facP T q i (j + 1) * pp)) from fun hf => by
              rw [HY.out, L.wrap_mul, HP.out, hf, show b0 * (facP T q i j * pp) * f = b0 * (facP T q i j * f * pp) by rw [Int.mul_assoc, Int.mul_assoc (facP T q i j) pp f, Int.mul_comm pp f, ← Int.mul_assoc (facP T q i j) f pp]])
            by_cases e2 : x = n0
            · have hb2 : (x == n0) = true := beq_iff_eq.2 e2
              have HR := Aside0.mk (HMUL.out q (by rw [HF.out, if_neg HLA.out, if_pos e2]))
              clear e2
              go_wp2
              go_roundg (row.length - (j + 1))
              case measure => omega
              case rel => exact ⟨j + 1, wrap64 (y * q), by omega, by omega, by go_num, rfl, HR, HW2⟩
            · have hb2 : (x == n0) = false := beq_eq_false_iff_ne.2 e2
              by_cases e3 : x = n1
              · have hb3 : (x == n1) = true := beq_iff_eq.2 e3
                have HR := Aside0.mk (HMUL.out 1 (by rw [HF.out, if_neg HLA.out, if_neg e2, if_pos e3]))
                have HR2 := Aside0.mk (show y = wrap64 (b0 * (facP T q i (j + 1) * pp)) by rw [← HR.out, Int.mul_one, HY.out, L.wrap_wrap])
                clear e2 e3
                go_wp2
                go_roundg (row.length - (j + 1))
                case measure => omega
                case rel => exact ⟨j + 1, y, by omega, by omega, by go_num, rfl, HR2, HW2⟩
              · have hb3 : (x == n1) = false := beq_eq_false_iff_ne.2 e3
                have HR := Aside0.mk (HMUL.out (1 + q) (by rw [HF.out, if_neg HLA.out, if_neg e2, if_neg e3]))
                clear e2 e3
                go_wp2
                go_roundg (row.length - (j + 1))
                case measure => omega
                case rel => exact ⟨j + 1, wrap64 (y * (1 + q)), by omega, by omega, by go_num, by first | rfl | go_num, HR, HW2⟩
          · have hjz : ¬ (j : Int) < (row.length : Int) := by omega
            have hjr : j = row.length := by omega
            have HYE := Aside0.mk (show y = setW T xs q (i + 1) by rw [HY.out, HSW.out, hjr])
            clear hjr
            go_wp2
            go_roundg (T.length - (i + 1))
            case measure => omega
            case rel => exact ⟨i + 1, by omega, by omega, by go_num, by rw [HYE.out], HW2⟩
    · have hi1 : (1 : Int) ≤ (i : Int) := by omega
      obtain ⟨k, hk⟩ : ∃ k, i = k + 1 := ⟨i - 1, by omega⟩
      obtain ⟨adp, Ap, cp, e0, hxp, _, hprow⟩ := rowsAt HT.out (i - 1) (by omega)
      cases e0
      replace hxp := pw_cell_below HW.out hxp
      have hpl := HLEN.out (i - 1) (by omega)
      have hs1 := HSM.out wr HW.out
      have hs2 := impl_sum.calls' Ap cp (T.getD (i - 1) []) wr (Kd.C_below hprow HW.out)
      have hah : L.ahead T i = sumW (T.getD (i - 1) []) := by rw [hk]; rfl
      rw [hah] at HSW HSL
      obtain ⟨sp, hsp⟩ : ∃ z, z = sumW (T.getD (i - 1) []) := ⟨_, rfl⟩
      rw [← hsp] at hs2 HSW HSL
      have hmb := (wrap_in (sm - sp)).2
      have hpw := fun W => impl_power.calls' xi (wrap64 (sm - sp)) W hmb
      obtain ⟨pp, hpp⟩ : ∃ z, z = pw xi (wrap64 (sm - sp)).toNat := ⟨_, rfl⟩
      rw [← hpp] at hpw HSW HSL
      obtain ⟨prow, hprw⟩ : ∃ r, r = T.getD (i - 1) [] := ⟨_, rfl⟩
      rw [← hprw] at hxp hs2
      have hiw : ((i - 1 : Nat) : Int) = (i : Int) - 1 := by omega
      clear hk hah hsp hpp hprw hi0 hprow hpl
      by_cases hla : i + 1 = T.length
      · have HE := Aside0.mk (show setW T xs q T.length = wrap64 (b0 * pp) from HSL.out hla)
        have hla1 : (i : Int) + 1 ≤ (T.length : Int) := by omega
        have hla2 : (T.length : Int) ≤ (i : Int) + 1 := by omega
        have hlb : ((i : Int) + 1 == (T.length : Int)) = true := by rw [beq_iff_eq]; omega
        clear hla
        skip
        go_wp2_with (first | (go_at_call 106; (with_reducible refine hs1.mono ?_); rintro e w2 ⟨rfl, rfl⟩) | (go_at_call 106; (with_reducible refine hs2.mono ?_); rintro e w2 ⟨rfl, rfl⟩) | (go_at_call 119; (with_reducible refine (hpw _).mono ?_); rintro e w2 ⟨rfl, ⟨nd, rfl⟩⟩))
        go_ret
        exact ⟨by rw [HE.out]; first | rfl | simp, by have := HW.out; repeat (first | exact below_then HB.out HB.out.size HW.out | apply below_drew | apply pw_below_drewN)⟩
      · have hla2 : (i : Int) + 1 < (T.length : Int) := by omega
        have hlb : ((i : Int) + 1 == (T.length : Int)) = false := by rw [beq_eq_false_iff_ne]; omega
        obtain ⟨ad', An, cn, e0, hxn, _, hnrow⟩ := rowsAt HT.out (i + 1) (by omega)
        cases e0
        replace hxn := pw_cell_below HW.out hxn
        have hnl := HLEN.out (i + 1) (by omega)
        obtain ⟨an, er, _⟩ := Kd.at_int hnrow (0 : Nat) (by omega) (by omega)
        cases er
        have HNR := Aside0.mk hnrow
        have HFC := Aside0.mk (fun j : Nat => show fac T q i j = if i + 1 = T.length then 1 else if rd (T.getD i []) j = rd (T.getD (i + 1) []) j then q else if rd (T.getD i []) j = rd (T.getD (i + 1) []) (j + 1 : Nat) then 1 else 1 + q from rfl)
        have HLA := Aside0.mk hla
        rw [← HRW.out] at HFC
        obtain ⟨nxt, hnx⟩ : ∃ r, r = T.getD (i + 1) [] := ⟨_, rfl⟩
        rw [← hnx] at hxn HNR HFC hnl
        have hnl1 : nxt.length ≤ i + 2 := by omega
        have hnl2 : i + 2 ≤ nxt.length := by omega
        clear hla hnx hnrow hnl
        skip
        go_wp2_with (first | (go_at_call 106; (with_reducible refine hs1.mono ?_); rintro e w2 ⟨rfl, rfl⟩) | (go_at_call 106; (with_reducible refine hs2.mono ?_); rintro e w2 ⟨rfl, rfl⟩) | (go_at_call 119; (with_reducible refine (hpw _).mono ?_); rintro e w2 ⟨rfl, ⟨nd, rfl⟩⟩))
        go_loopg [8, 12, 13, 14, 51] row.length (fun gj s8 s12 s13 s14 s51 wr2 => ∃ (j : Nat) (y : Int), j ≤ row.length ∧ row.length - j ≤ gj ∧ s51 = .int .i64 j ∧ s8 = .int .i64 y ∧ Aside0 (y = wrap64 (b0 * (facP T q i j * pp))) ∧ Aside0 (Below w1.heap.size w1 wr2))
        case atStart => exact ⟨0, wrap64 (b0 * pp), Nat.zero_le _, Nat.le_refl _, rfl, rfl, ⟨by rw [facP, Int.one_mul]⟩, ⟨by repeat (first | exact HW.out | apply below_drew | apply pw_below_drewN)⟩⟩
        case round =>
          obtain ⟨j, y, hj, hgj, rfl, rfl, HY, HW2⟩ := hrel
          by_cases hjt : j < row.length
          · have hjz : (j : Int) < (row.length : Int) := by omega
            obtain ⟨ar', e2, hr⟩ := Kd.at_int HROW.out (j : Int) (by omega) hjz
            cases e2
            obtain ⟨an', e3, hn0⟩ := Kd.at_int HNR.out (j : Int) (by omega) (by omega)
            cases e3
            obtain ⟨an', e3, hn1⟩ := Kd.at_int HNR.out ((j + 1 : Nat) : Int) (by omega) (by omega)
            cases e3
            simp only [Int.toNat_natCast] at hr hn0 hn1
            replace hr := pw_cell_below HW2.out hr
            replace hn0 := pw_cell_below HW2.out hn0
            replace hn1 := pw_cell_below HW2.out hn1
            have hxn2 : wr.cell? (ad.add (i + 1)) = some (.slice (some an) nxt.length cn) := by
              have hh := HT.out
              obtain ⟨ad'', An', cn', e0, hxn', _, hnrow'⟩ := rowsAt hh (i + 1) (by omega)
              cases e0
              have h3 := pw_cell_below HW2.out hxn'
              have h4 := pw_cell_below HW.out hxn'
              rw [h3, ← h4, hxn]
            rw [Addr.add_succ'] at hxn2 hn1
            have HF := Aside0.mk (HFC.out j)
            have HP := Aside0.mk (show facP T q i (j + 1) = facP T q i j * fac T q i j from rfl)
            obtain ⟨x, hxx⟩ : ∃ x, x = rd row (j : Int) := ⟨_, rfl⟩
            obtain ⟨n0, hnn0⟩ : ∃ x, x = rd nxt (j : Int) := ⟨_, rfl⟩
            obtain ⟨n1, hnn1⟩ : ∃ x, x = rd nxt ((j + 1 : Nat) : Int) := ⟨_, rfl⟩
            rw [← hxx] at hr HF
            rw [← hnn0] at hn0 HF
            rw [← hnn1] at hn1 HF
            clear hxx hnn0 hnn1
            have HMUL := Aside0.mk (fun f : Int => show fac T q i j = f → wrap64 (y * f) = wrap64 (b0 * (facP T q i (j + 1) * pp)) from fun hf => by
              rw [HY.out, L.wrap_mul, HP.out, hf, show b0 * (facP T q i j * pp) * f = b0 * (facP T q i j * f * pp) by rw [Int.mul_assoc, Int.mul_assoc (facP T q i j) pp f, Int.mul_comm pp f, ← Int.mul_assoc (facP T q i j) f pp]])
            by_cases e2 : x = n0
            · have hb2 : (x == n0) = true := beq_iff_eq.2 e2
              have HR := Aside0.mk (HMUL.out q (by rw [HF.out, if_neg HLA.out, if_pos e2]))
              clear e2
              go_wp2
              go_roundg (row.length - (j + 1))
              case measure => omega
              case rel => exact ⟨j + 1, wrap64 (y * q), by omega, by omega, by go_num, rfl, HR, HW2⟩
            · have hb2 : (x == n0) = false := beq_eq_false_iff_ne.2 e2
              by_cases e3 : x = n1
              · have hb3 : (x == n1) = true := beq_iff_eq.2 e3
                have HR := Aside0.mk (HMUL.out 1 (by rw [HF.out, if_neg HLA.out, if_neg e2, if_pos e3]))
                have HR2 := Aside0.mk (show y = wrap64 (b0 * (facP T q i (j + 1) * pp)) by rw [← HR.out, Int.mul_one, HY.out, L.wrap_wrap])
                clear e2 e3
                go_wp2
                go_roundg (row.length - (j + 1))
                case measure => omega
                case rel => exact ⟨j + 1, y, by omega, by omega, by go_num, rfl, HR2, HW2⟩
              · have hb3 : (x == n1) = false := beq_eq_false_iff_ne.2 e3
                have HR := Aside0.mk (HMUL.out (1 + q) (by rw [HF.out, if_neg HLA.out, if_neg e2, if_neg e3]))
                clear e2 e3
                go_wp2
                go_roundg (row.length - (j + 1))
                case measure => omega
                case rel => exact ⟨j + 1, wrap64 (y * (1 + q)), by omega, by omega, by go_num, by first | rfl | go_num, HR, HW2⟩
          · have hjz : ¬ (j : Int) < (row.length : Int) := by omega
            have hjr : j = row.length := by omega
            have HYE := Aside0.mk (show y = setW T xs q (i + 1) by rw [HY.out, HSW.out, hjr])
            clear hjr
            go_wp2
            go_roundg (T.length - (i + 1))
            case measure => omega
            case rel => exact ⟨i + 1, by omega, by omega, by go_num, by rw [HYE.out], HW2⟩
end Go.Proofs.Ytlpadkbpbmoliaa

/- The walk of setWeight, as a given of the print. -/
namespace Go.Proofs.Ytlpadkbpbmoliaa
open Go.RowKit Go.Proofs.Ytlpadkbpbmoliaa.P Go.Proofs.Ytlpadkbpbmoliaa.L Go.Proofs.YtlpadkbpbmoliaaW.PrintWords Go.Proofs.YtlpadkbpbmoliaaW.PrintLast Go.Proofs.YtlpadkbpbmoliaaW.PrintMore
set_option linter.unusedVariables false

def impl_setWeight.f (l0 : List (List Int)) (l1 : List Int) (a2 : Int) : Option Int := if (isSign l0 && inB a2 0 4 && (l1.length == l0.length)) = true then some (L.setW (trianM l0) l1 a2 l0.length) else none
theorem impl_setWeight.calls (A0 : Option Addr) (c0 : Nat) (l0 : List (List Int)) (A1 : Option Addr) (c1 : Nat) (l1 : List Int) (a2 : Int) (r : Int) (w : World) (hr0 : Kd.C (Kd.slice 3 (Kd.int .i64)) w A0 l0.length l0) (hc0 : l0.length ≤ c0) (hr1 : Kd.C (Kd.int .i64) w A1 l1.length l1) (hc1 : l1.length ≤ c1) (h : impl_setWeight.f l0 l1 a2 = some r) :
    Calls Try.prog 82 #[.slice A0 l0.length c0, .slice A1 l1.length c1, .int .i64 a2] w fun e w' => e = .returned (.int .i64 r) ∧ Below w.heap.size w w' := by
  unfold impl_setWeight.f at h
  by_cases hc : (isSign l0 && inB a2 0 4 && (l1.length == l0.length)) = true
  · rw [if_pos hc] at h
    obtain rfl := Option.some.inj h
    simp only [Bool.and_eq_true] at hc
    obtain ⟨⟨hs, hq⟩, hl⟩ := hc
    have hq2 := (inB_iff _ _ _).1 hq
    have hl2 := beq_iff_eq.1 hl
    have h2 := isSign_facts hs
    have htl : (trianM l0).length = l0.length := L.trianTo_length _ _
    obtain ⟨k, hk⟩ := (L.triangle_ev l0 hs).rounds
    have := impl_setWeight.callsG A0 c0 l0 A1 c1 l1 a2 w (trianM l0) (by omega) (by omega) (fun i hi => by
      rw [htl] at hi
      have e : (trianM l0).getD i [] = setRow l0 i l0.length := by simp [trianM, trianTo, List.getD_eq_getElem?_getD, hi]
      rw [e, L.setRow_length hs i hi]) (by omega) hq2.1 hq2.2 (impl_triangle.calls k A0 c0 l0 _ w hr0 hc0 hk) hr1
    rw [htl] at this
    exact this
  · rw [if_neg hc] at h
    cases h
end Go.Proofs.Ytlpadkbpbmoliaa
