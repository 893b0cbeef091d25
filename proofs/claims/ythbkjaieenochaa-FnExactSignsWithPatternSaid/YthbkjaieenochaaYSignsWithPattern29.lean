/- Texts of one chain, in build order. -/
import Derived.Test.YthbkjaieenochaaYSignsWithPattern28
namespace Go.Proofs.Ythbkjaieenochaa.L
set_option linter.unusedVariables false
open Go.RowKit Go.Proofs.Ythbkjaieenochaa Go.Proofs.Ythbkjaieenochaa.P Go.Proofs.Ythbkjaieenochaa.LN Go.Proofs.YthbkjaieenochaaW.PrintWords Go.Proofs.YthbkjaieenochaaW.PrintLast Go.Proofs.YthbkjaieenochaaW.PrintMore

/-- The sums of the columns, when row i is read up to column j. -/
def colS (m : List (List Int)) (i j : Nat) : List Int := (List.range m.length).map fun t => ps (colL m t) (if t < j then i + 1 else i)
theorem colS_length (m : List (List Int)) (i j : Nat) : (colS m i j).length = m.length := by simp [colS]
theorem colS_rd (m : List (List Int)) (i j t : Nat) (h : t < m.length) : rd (colS m i j) (t : Int) = ps (colL m t) (if t < j then i + 1 else i) := by
 rw [rd_at _ _ (by rw [colS_length]; exact h)]; simp [colS]
theorem colS_end (m : List (List Int)) (i : Nat) : colS m i m.length = colS m (i + 1) 0 := by
 unfold colS
 apply List.map_congr_left
 intro t ht
 rw [if_pos (List.mem_range.1 ht), if_neg (by omega)]
theorem colS_set (m : List (List Int)) (i j : Nat) (hi : i < m.length) (hj : j < m.length) : (colS m i j).set j (ps (colL m j) i + rd (m.getD i []) j) = colS m i (j + 1) := by
 apply List.ext_getElem
 ·simp [colS]
 ·intro t h1 h2
  rw [colS_length] at h2
  rw [List.getElem_set]
  simp only [colS, List.getElem_map, List.getElem_range]
  by_cases e : j = t
  ·subst e
   rw [if_pos rfl, if_pos (by omega), ps, rd_colL m i j hi]
  ·rw [if_neg e]
   by_cases h : t < j
   ·rw [if_pos h, if_pos (by omega)]
   ·rw [if_neg h, if_neg (by omega)]
theorem rowL_succ (f : Nat → Nat → Int) (i j : Nat) : rowL f i (j + 1) = rowL f i j ++ [f i j] := by simp [rowL, List.range_succ]
theorem tableL_succ (f : Nat → Nat → Int) (i c : Nat) : tableL f (i + 1) c = tableL f i c ++ [rowL f i c] := by simp [tableL, List.range_succ]
theorem colS_zero (m : List (List Int)) : colS m 0 0 = List.replicate m.length 0 := by
 unfold colS
 rw [List.eq_replicate_iff]
 refine ⟨by simp, fun b hb => ?_⟩
 obtain ⟨t, _, rfl⟩ := List.mem_map.1 hb
 rw [if_neg (by omega)]; rfl
theorem tmod2 {x : Int} (h : 0 ≤ x) : Int.tmod x 2 = x % 2 := Int.tmod_eq_emod_of_nonneg h
theorem bit0 {x : Int} : 1 - x % 2 = bitI (x % 2 == 0) := by
 rcases (by omega : x % 2 = 0 ∨ x % 2 = 1) with h | h <;> rw [h] <;> rfl
theorem bit1 {x : Int} : x % 2 = bitI (x % 2 == 1) := by
 rcases (by omega : x % 2 = 0 ∨ x % 2 = 1) with h | h <;> rw [h] <;> rfl

theorem loOf_l1 (m : List (List Int)) (hs : isSign m = true) (AC : List (List Int)) (i : Nat) (hi : i < m.length) (hac : AC.length ≤ 10) (r : Int × List (List Int) × List (List Int))
  (hr : Ev (fun k => spec_loOf.l0 k m m.length m m.length ((i + 1 : Nat) : Int) m.length (AC ++ [rowL (acF m) i (m.length + 1)])) r) :
  ∀ (d j : Nat), j + d = m.length + 1 → Ev (fun k => spec_loOf.l1 k m m.length i (m.getD i []) (rowL (acF m) i j) (ps (m.getD i []) (if j ≤ m.length then j else m.length)) j m m.length i m.length AC) r := by
 obtain ⟨h1, h2, h3, h4⟩ := isSign_facts hs
 intro d
 induction d with
 | zero =>
  intro j hj
  refine Ev.step (fun k => by rw [spec_loOf.l1]) ?_
  have hj2 : j = m.length + 1 := by omega
  subst hj2
  rw [wrapS i (by omega)]
  exact Ev.ite_neg (by omega) (Ev.ite_pos (by omega) hr)
 | succ d ih =>
  intro j hj
  have hjn : j ≤ m.length := by omega
  have a0 := alt_ps (h4 i hi).1 (j := j) (by rw [h3 i hi]; omega)
  have hnext := ih (j + 1) (by omega)
  refine Ev.step (fun k => by rw [spec_loOf.l1]) ?_
  rw [if_pos hjn]
  have e1 : wrap64 (ps (m.getD i []) j + (i : Int)) = ps (m.getD i []) j + i := wrap_small (by omega) (by omega)
  have e2 : wrap64 (ps (m.getD i []) j + (i : Int) + (j : Int)) = ps (m.getD i []) j + i + j := wrap_small (by omega) (by omega)
  have e3 : wrap64 (1 - Int.tmod (wrap64 (wrap64 (ps (m.getD i []) j + (i : Int)) + (j : Int))) 2) = acF m i j := by
   rw [e1, e2, tmod2 (by omega), wrap_small (by omega) (by omega), bit0]; rfl
  refine Ev.ite_pos (by omega) (Ev.ite_pos (by rw [rowL_length]; omega) ?_)
  rw [e3, ← rowL_succ, wrapS j (by omega)]
  refine Ev.some_bind rfl ?_
  by_cases hlt : j < m.length
  ·have a1 := alt_ps (h4 i hi).1 (j := j + 1) (by rw [h3 i hi]; omega)
   refine Ev.ite_pos (by omega) (Ev.ite_pos (by omega) (Ev.ite_pos (by rw [h3 i hi]; omega) ?_))
   rw [if_pos (show j + 1 ≤ m.length by omega)] at hnext
   rw [show wrap64 (ps (m.getD i []) j + rd (m.getD i []) (j : Int)) = ps (m.getD i []) (j + 1) by rw [ps] at a1 ⊢; exact wrap_small (by omega) (by omega)]
   exact hnext
  ·have hj3 : j = m.length := by omega
   rw [if_neg (show ¬ j + 1 ≤ m.length by omega)] at hnext
   refine Ev.ite_neg (by omega) ?_
   rw [hj3] at hnext ⊢
   exact hnext
theorem loOf_l0 (m : List (List Int)) (hs : isSign m = true) (r : Int × List (List Int) × List (List Int))
  (hr : Ev (fun k => spec_loOf.l2 k m m.length (colS m 0 0) 0 m.length (acM m) []) r) : ∀ (d i : Nat), i + d = m.length → Ev (fun k => spec_loOf.l0 k m m.length m m.length i m.length (tableL (acF m) i (m.length + 1))) r := by
 obtain ⟨h1, h2, h3, h4⟩ := isSign_facts hs
 intro d
 induction d with
 | zero =>
  intro i hi
  refine Ev.step (fun k => by rw [spec_loOf.l0]) ?_
  have hi2 : i = m.length := by omega
  subst hi2
  refine Ev.ite_neg (by omega) (Ev.ite_pos (by omega) (Ev.ite_pos (by omega) ?_))
  rw [colS_zero] at hr
  exact hr
 | succ d ih =>
  intro i hi
  refine Ev.step (fun k => by rw [spec_loOf.l0]) ?_
  refine Ev.ite_pos (by omega) (Ev.ite_pos (by omega) (Ev.ite_pos (by omega) ?_))
  rw [rd1_get]
  have hnext := ih (i + 1) (by omega)
  rw [tableL_succ] at hnext
  exact loOf_l1 m hs _ i (by omega) (by rw [tableL_length]; omega) r hnext (m.length + 1) 0 (by omega)
theorem loOf_l4 (m : List (List Int)) (hs : isSign m = true) (i : Nat) (hi : i < m.length) (AC y : List (List Int)) (r : Int × List (List Int) × List (List Int))
  (hr : Ev (fun k => spec_loOf.l2 k m m.length (colS m (i + 1) 0) ((i + 1 : Nat) : Int) m.length AC y) r) : ∀ (d j : Nat), j + d = m.length → Ev (fun k => spec_loOf.l4 k m m.length (colS m i j) i (m.getD i []) (m.getD i []).length j m.length AC y) r := by
 obtain ⟨h1, h2, h3, h4⟩ := isSign_facts hs
 intro d
 induction d with
 | zero =>
  intro j hj
  refine Ev.step (fun k => by rw [spec_loOf.l4]) ?_
  rw [h3 i hi, wrapS i (by omega)]
  have hj2 : j = m.length := by omega
  subst hj2
  rw [colS_end]
  exact Ev.ite_neg (by omega) hr
 | succ d ih =>
  intro j hj
  have hjn : j < m.length := by omega
  have hjr : j < (m.getD i []).length := by rw [h3 i hi]; exact hjn
  have b1 := alt_ps (h4 j hjn).2 (j := i + 1) (by rw [colL_length]; omega)
  rw [ps, rd_colL m i j hi] at b1
  have hcs : rd (colS m i j) (j : Int) = ps (colL m j) i := by rw [colS_rd m i j j hjn, if_neg (by omega)]
  refine Ev.step (fun k => by rw [spec_loOf.l4]) ?_
  refine Ev.ite_pos (by omega) (Ev.ite_pos (by omega) (Ev.ite_pos (by omega) (Ev.ite_pos (by rw [colS_length]; omega) ?_)))
  rw [hcs, wrap_small (by omega) (by omega), wrapS j (by omega), Int.toNat_natCast, colS_set m i j hi hjn]
  exact ih (j + 1) (by omega)
theorem loOf_l3 (m : List (List Int)) (hs : isSign m = true) (i : Nat) (hi : i ≤ m.length) (AC DN : List (List Int)) (hdn : DN.length ≤ 10) (r : Int × List (List Int) × List (List Int))
  (hr : i < m.length → Ev (fun k => spec_loOf.l4 k m m.length (colS m i 0) i (m.getD i []) (m.getD i []).length 0 m.length AC (DN ++ [rowL (dnF m) i m.length])) r)
  (hr2 : ¬ i < m.length → Ev (fun k => spec_loOf.l2 k m m.length (colS m i 0) ((i + 1 : Nat) : Int) m.length AC (DN ++ [rowL (dnF m) i m.length])) r) :
  ∀ (d j : Nat), j + d = m.length → Ev (fun k => spec_loOf.l3 k m m.length (colS m i 0) i (rowL (dnF m) i j) (colS m i 0) (colS m i 0).length j m.length AC DN) r := by
 obtain ⟨h1, h2, h3, h4⟩ := isSign_facts hs
 intro d
 induction d with
 | zero =>
  intro j hj
  refine Ev.step (fun k => by rw [spec_loOf.l3]) ?_
  have hj2 : j = m.length := by omega
  subst hj2
  refine Ev.ite_neg (by rw [colS_length]; omega) (Ev.ite_pos (by omega) (Ev.some_bind rfl ?_))
  by_cases hlt : i < m.length
  ·refine Ev.ite_pos (by omega) (Ev.ite_pos (by omega) (Ev.ite_pos (by omega) ?_))
   rw [rd1_get]
   exact hr hlt
  ·rw [wrapS i (by omega)]
   exact Ev.ite_neg (by omega) (hr2 hlt)
 | succ d ih =>
  intro j hj
  have hjn : j < m.length := by omega
  have b0 := alt_ps (h4 j hjn).2 (j := i) (by rw [colL_length]; omega)
  have hcs : rd (colS m i 0) (j : Int) = ps (colL m j) i := by rw [colS_rd m i 0 j hjn, if_neg (by omega)]
  have hnext := ih (j + 1) (by omega)
  refine Ev.step (fun k => by rw [spec_loOf.l3]) ?_
  refine Ev.ite_pos (by rw [colS_length]; omega) (Ev.ite_pos (by omega) (Ev.ite_pos (by rw [colS_length]; omega) (Ev.ite_pos (by rw [rowL_length]; omega) ?_)))
  have e1 : wrap64 (ps (colL m j) i + (i : Int)) = ps (colL m j) i + i := wrap_small (by omega) (by omega)
  have e2 : wrap64 (ps (colL m j) i + (i : Int) + (j : Int)) = ps (colL m j) i + i + j := wrap_small (by omega) (by omega)
  rw [hcs, e1, e2, tmod2 (by omega), bit1, wrapS j (by omega)]
  rw [rowL_succ] at hnext
  exact hnext
theorem loOf_l2 (m : List (List Int)) (hs : isSign m = true) : ∀ (d i : Nat), i + d = m.length + 1 → Ev (fun k => spec_loOf.l2 k m m.length (colS m (if i ≤ m.length then i else m.length) 0) i m.length (acM m) (tableL (dnF m) i m.length)) ((m.length : Int), acM m, dnM m) := by
 obtain ⟨h1, h2, h3, h4⟩ := isSign_facts hs
 intro d
 induction d with
 | zero =>
  intro i hi
  refine Ev.step (fun k => by rw [spec_loOf.l2]) ?_
  have hi2 : i = m.length + 1 := by omega
  subst hi2
  exact Ev.ite_neg (by omega) (Ev.now _)
 | succ d ih =>
  intro i hi
  have hin : i ≤ m.length := by omega
  refine Ev.step (fun k => by rw [spec_loOf.l2]) ?_
  refine Ev.ite_pos (by omega) ?_
  rw [if_pos hin]
  have hnext := ih (i + 1) (by omega)
  rw [tableL_succ] at hnext
  refine loOf_l3 m hs i hin (acM m) (tableL (dnF m) i m.length) (by rw [tableL_length]; omega) _ (fun hlt => ?_) (fun hlt => ?_) m.length 0 (by omega)
  ·rw [if_pos (by omega)] at hnext
   exact loOf_l4 m hs i hlt _ _ _ hnext m.length 0 (by omega)
  ·rw [if_neg (by omega)] at hnext
   have hi2 : i = m.length := by omega
   rw [← hi2] at hnext ⊢
   exact hnext
theorem loOf_ev (m : List (List Int)) (hs : isSign m = true) : Ev (fun k => spec_loOf.f k m) ((m.length : Int), acM m, dnM m) := by
 have h2 := (isSign_facts hs).2.1
 unfold spec_loOf.f
 refine loOf_l0 m hs _ ?_ m.length 0 (by omega)
 have := loOf_l2 m hs (m.length + 1) 0 (by omega)
 rw [if_pos (Nat.zero_le _)] at this
 exact this
end Go.Proofs.Ythbkjaieenochaa.L
