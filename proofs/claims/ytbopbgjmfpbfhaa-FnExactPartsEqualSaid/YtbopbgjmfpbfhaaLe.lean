import Derived.Test.YtbopbgjmfpbfhaaHp
import Derived.Test.YtbopbgjmfpbfhaaPx65
import Derived.Test.YtbopbgjmfpbfhaaPx68
import Derived.Test.YtbopbgjmfpbfhaaPx70
namespace Go.Proofs.Ytbopbgjmfpbfhaa.L
open Go.RowKit Go.Proofs.Ytbopbgjmfpbfhaa Go.Proofs.Ytbopbgjmfpbfhaa.P Go.Proofs.YtbopbgjmfpbfhaaW.PrintWords Go.Proofs.YtbopbgjmfpbfhaaW.PrintLast Go.Proofs.YtbopbgjmfpbfhaaW.PrintMore

theorem isDesc_rows {l : List (List Int)} (hd : isDesc 6 l = true) : l.length ≤ 6 ∧ ∀ i, i < l.length → (l.getD i []).length ≤ 100 :=
  ⟨by have := isDesc_short 6 l (by omega) hd; omega, fun i hi => by have := (rowGood_facts (goodFrom_row 6 l hd i hi)).2.1; omega⟩
theorem cnt_true (r : List Int) : ∀ j : Nat, cnt (fun _ _ => true) r j = j := by
  intro j
  induction j with
  | zero => rfl
  | succ j ih => rw [cnt, ih]; simp [bitI]
theorem dpParts_l0 (l : List (List Int)) (hd : isDesc 6 l = true) : ∀ (d i : Nat), i + d = l.length → Ev (fun k => spec_dpParts.l0 k (cntAll (fun _ _ => true) l i) l l.length i) (cntAll (fun _ _ => true) l l.length) := by
  obtain ⟨h6, hb⟩ := isDesc_rows hd
  intro d
  induction d with
  | zero =>
    intro i hi
    refine Ev.step (fun k => by rw [spec_dpParts.l0]) ?_
    rw [show i = l.length by omega]
    exact Ev.ite_neg (by omega) (Ev.now _)
  | succ d ih =>
    intro i hi
    refine Ev.step (fun k => by rw [spec_dpParts.l0]) ?_
    refine Ev.ite_pos (by omega) (Ev.ite_pos (by omega) (Ev.ite_pos (by omega) ?_))
    have h1 := cntAll_le (fun _ _ => true) l hb i (by omega)
    have h2 := hb i (by omega)
    rw [rd1_get, wrapI _ (by omega) (by omega), wrapS i (by omega), show cntAll (fun _ _ => true) l i + ((l.getD i []).length : Int) = cntAll (fun _ _ => true) l (i + 1) from by rw [cntAll, cnt_true]]
    exact ih (i + 1) (by omega)
theorem dpParts_ev (l : List (List Int)) (hd : isDesc 6 l = true) : Ev (fun k => spec_dpParts.f k l) (cntAll (fun _ _ => true) l l.length) := dpParts_l0 l hd l.length 0 (by omega)

theorem dpSpecial_l1 (l : List (List Int)) (i : Nat) (r : List Int) (hr : r.length ≤ 100) (c : Int) (hc0 : 0 ≤ c) (hc : c ≤ 1000) (hi : i ≤ 100) (R : Int)
    (hR : Ev (fun k => spec_dpSpecial.l0 k (c + cnt (fun x i => decide (x ≤ i)) r r.length) l l.length ((i + 1 : Nat) : Int)) R) : ∀ (d j : Nat), j + d = r.length → Ev (fun k => spec_dpSpecial.l1 k (c + cnt (fun x i => decide (x ≤ i)) r j) l l.length i r r.length j) R := by
  intro d
  induction d with
  | zero =>
    intro j hj
    refine Ev.step (fun k => by rw [spec_dpSpecial.l1]) ?_
    rw [show j = r.length by omega]
    refine Ev.ite_neg (by omega) ?_
    rw [wrapS i (by omega)]
    exact hR
  | succ d ih =>
    intro j hj
    have hb := cnt_le (fun x i => decide (x ≤ i)) r j
    refine Ev.step (fun k => by rw [spec_dpSpecial.l1]) ?_
    refine Ev.ite_pos (by omega) (Ev.ite_pos (by omega) (Ev.ite_pos (by omega) ?_))
    have hs : cnt (fun x i => decide (x ≤ i)) r (j + 1) = cnt (fun x i => decide (x ≤ i)) r j + bitI (decide (rd r j ≤ (j : Int))) := rfl
    by_cases hq : rd r j ≤ (j : Int)
    · refine Ev.ite_pos hq ?_
      have : cnt (fun x i => decide (x ≤ i)) r (j + 1) = cnt (fun x i => decide (x ≤ i)) r j + 1 := by rw [hs, show (decide (rd r j ≤ (j : Int))) = true from decide_eq_true hq]; rfl
      rw [wrapI _ (by omega) (by omega), wrapS j (by omega), show c + cnt (fun x i => decide (x ≤ i)) r j + 1 = c + cnt (fun x i => decide (x ≤ i)) r (j + 1) by omega]
      exact ih (j + 1) (by omega)
    · refine Ev.ite_neg hq ?_
      have : cnt (fun x i => decide (x ≤ i)) r (j + 1) = cnt (fun x i => decide (x ≤ i)) r j := by rw [hs, show (decide (rd r j ≤ (j : Int))) = false from decide_eq_false hq]; simp [bitI]
      rw [wrapS j (by omega), show c + cnt (fun x i => decide (x ≤ i)) r j = c + cnt (fun x i => decide (x ≤ i)) r (j + 1) by omega]
      exact ih (j + 1) (by omega)
theorem dpSpecial_l0 (l : List (List Int)) (hd : isDesc 6 l = true) : ∀ (d i : Nat), i + d = l.length → Ev (fun k => spec_dpSpecial.l0 k (cntAll (fun x i => decide (x ≤ i)) l i) l l.length i) (cntAll (fun x i => decide (x ≤ i)) l l.length) := by
  obtain ⟨h6, hb⟩ := isDesc_rows hd
  intro d
  induction d with
  | zero =>
    intro i hi
    refine Ev.step (fun k => by rw [spec_dpSpecial.l0]) ?_
    rw [show i = l.length by omega]
    exact Ev.ite_neg (by omega) (Ev.now _)
  | succ d ih =>
    intro i hi
    refine Ev.step (fun k => by rw [spec_dpSpecial.l0]) ?_
    refine Ev.ite_pos (by omega) (Ev.ite_pos (by omega) (Ev.ite_pos (by omega) ?_))
    have h1 := cntAll_le (fun x i => decide (x ≤ i)) l hb i (by omega)
    have h2 := hb i (by omega)
    rw [rd1_get]
    have := dpSpecial_l1 l  i (l.getD i []) h2 (cntAll (fun x i => decide (x ≤ i)) l i) h1.1 (by omega) (by omega) _ (ih (i + 1) (by omega)) (l.getD i []).length 0 (by omega)
    simpa [cnt] using this
theorem dpSpecial_ev (l : List (List Int)) (hd : isDesc 6 l = true) : Ev (fun k => spec_dpSpecial.f k l) (cntAll (fun x i => decide (x ≤ i)) l l.length) := dpSpecial_l0 l  hd l.length 0 (by omega)

theorem dpEqual_l1 (l : List (List Int)) (n : Int) (i : Nat) (r : List Int) (hr : r.length ≤ 100) (c : Int) (hc0 : 0 ≤ c) (hc : c ≤ 1000) (hi : i ≤ 100) (R : Int)
    (hR : Ev (fun k => spec_dpEqual.l0 k n (c + cnt (fun x _ => x == n) r r.length) l l.length ((i + 1 : Nat) : Int)) R) : ∀ (d j : Nat), j + d = r.length → Ev (fun k => spec_dpEqual.l1 k n (c + cnt (fun x _ => x == n) r j) l l.length i r r.length j) R := by
  intro d
  induction d with
  | zero =>
    intro j hj
    refine Ev.step (fun k => by rw [spec_dpEqual.l1]) ?_
    rw [show j = r.length by omega]
    refine Ev.ite_neg (by omega) ?_
    rw [wrapS i (by omega)]
    exact hR
  | succ d ih =>
    intro j hj
    have hb := cnt_le (fun x _ => x == n) r j
    refine Ev.step (fun k => by rw [spec_dpEqual.l1]) ?_
    refine Ev.ite_pos (by omega) (Ev.ite_pos (by omega) (Ev.ite_pos (by omega) ?_))
    have hs : cnt (fun x _ => x == n) r (j + 1) = cnt (fun x _ => x == n) r j + bitI (rd r j == n) := rfl
    by_cases hq : rd r j = n
    · refine Ev.ite_pos hq ?_
      have : cnt (fun x _ => x == n) r (j + 1) = cnt (fun x _ => x == n) r j + 1 := by rw [hs, show (rd r j == n) = true from beq_iff_eq.2 hq]; rfl
      rw [wrapI _ (by omega) (by omega), wrapS j (by omega), show c + cnt (fun x _ => x == n) r j + 1 = c + cnt (fun x _ => x == n) r (j + 1) by omega]
      exact ih (j + 1) (by omega)
    · refine Ev.ite_neg hq ?_
      have : cnt (fun x _ => x == n) r (j + 1) = cnt (fun x _ => x == n) r j := by rw [hs, show (rd r j == n) = false from beq_eq_false_iff_ne.2 hq]; simp [bitI]
      rw [wrapS j (by omega), show c + cnt (fun x _ => x == n) r j = c + cnt (fun x _ => x == n) r (j + 1) by omega]
      exact ih (j + 1) (by omega)
theorem dpEqual_l0 (l : List (List Int)) (n : Int) (hd : isDesc 6 l = true) : ∀ (d i : Nat), i + d = l.length → Ev (fun k => spec_dpEqual.l0 k n (cntAll (fun x _ => x == n) l i) l l.length i) (cntAll (fun x _ => x == n) l l.length) := by
  obtain ⟨h6, hb⟩ := isDesc_rows hd
  intro d
  induction d with
  | zero =>
    intro i hi
    refine Ev.step (fun k => by rw [spec_dpEqual.l0]) ?_
    rw [show i = l.length by omega]
    exact Ev.ite_neg (by omega) (Ev.now _)
  | succ d ih =>
    intro i hi
    refine Ev.step (fun k => by rw [spec_dpEqual.l0]) ?_
    refine Ev.ite_pos (by omega) (Ev.ite_pos (by omega) (Ev.ite_pos (by omega) ?_))
    have h1 := cntAll_le (fun x _ => x == n) l hb i (by omega)
    have h2 := hb i (by omega)
    rw [rd1_get]
    have := dpEqual_l1 l n i (l.getD i []) h2 (cntAll (fun x _ => x == n) l i) h1.1 (by omega) (by omega) _ (ih (i + 1) (by omega)) (l.getD i []).length 0 (by omega)
    simpa [cnt] using this
theorem dpEqual_ev (l : List (List Int)) (n : Int) (hd : isDesc 6 l = true) : Ev (fun k => spec_dpEqual.f k l n) (cntAll (fun x _ => x == n) l l.length) := dpEqual_l0 l n hd l.length 0 (by omega)

end Go.Proofs.Ytbopbgjmfpbfhaa.L
