/- Texts of one chain, in build order. -/
import Derived.Test.YthbkjaieenochaaYBLineLengthsWayFrom19
namespace Go.Proofs.Ythbkjaieenochaa.L
set_option linter.unusedVariables false
open Go.RowKit Go.Proofs.Ythbkjaieenochaa Go.Proofs.Ythbkjaieenochaa.P Go.Proofs.Ythbkjaieenochaa.LN Go.Proofs.YthbkjaieenochaaW.PrintWords Go.Proofs.YthbkjaieenochaaW.PrintLast Go.Proofs.YthbkjaieenochaaW.PrintMore
set_option maxRecDepth 100000

/-- An end: its side, and its point at the border. -/
def endsP (n : Nat) (e : List Int) : Bool :=
 match e with
 | [s, i, j] => ing n i j && ((s == 0 && (i == 0 && j % 2 == 1)) || ((s == 1 && (j == (n : Int) - 1 && ((n : Int) + i) % 2 == 1)) || ((s == 2 && (i == (n : Int) - 1 && ((n : Int) + j) % 2 == 0)) || (s == 3 && (j == 0 && i % 2 == 0)))))
 | _ => false
structure EndsAll (n : Nat) : Prop where
 im : impl_ends.f 100 (n : Int) = some (endsL n)
 sp : spec_loEnds.f 100 (n : Int) = some (endsL n)
 len : (endsL n).length = 2 * n
 all : (endsL n).all (endsP n) = true
theorem ends_all {n : Nat} (h0 : 1 ≤ n) (h1 : n ≤ 6) : EndsAll n := by
 have e : n = 1 ∨ n = 2 ∨ n = 3 ∨ n = 4 ∨ n = 5 ∨ n = 6 := by omega
 rcases e with rfl | rfl | rfl | rfl | rfl | rfl <;> exact ⟨by decide +kernel, by decide +kernel, by decide +kernel, by decide +kernel⟩
theorem ends_ev {n : Nat} (h : EndsAll n) : Ev (fun k => impl_ends.f k (n : Int)) (endsL n) := Ev.of (fun k => impl_ends.mono _ k) h.im
theorem ends_ev2 {n : Nat} (h : EndsAll n) : Ev (fun k => spec_loEnds.f k (n : Int)) (endsL n) := Ev.of (fun k => spec_loEnds.mono _ k) h.sp
theorem ps_all {l : List Int} (h : altB l = true) : ps l l.length = 1 := by
 have := (alt_from l h l.length (Nat.le_refl _)).1
 rw [List.drop_length, altFrom] at this
 exact beq_iff_eq.1 this
theorem ends_at {n : Nat} (h : EndsAll n) (i : Nat) (hi : i < (endsL n).length) : endsP n ((endsL n).getD i []) = true := by
 rw [List.getD_eq_getElem?_getD, List.getElem?_eq_getElem hi]
 exact List.all_eq_true.1 h.all _ (List.getElem_mem hi)
/-- A line that begins at an end begins at an edge that is drawn. -/
theorem end_ok {m : List (List Int)} (hs : isSign m = true) {e : List Int} (he : endsP m.length e = true) : e.length = 3 ∧ okS (r2 (acM m)) (r2 (dnM m)) m.length (rd e 1, rd e 2, rd e 0) := by
 obtain ⟨h1, h2, h3, h4⟩ := isSign_facts hs
 unfold endsP at he
 split at he
 case h_2 => cases he
 rename_i s i j
 refine ⟨rfl, ?_⟩
 show okS _ _ _ (i, j, s)
 rw [Bool.and_eq_true] at he
 obtain ⟨hi, he⟩ := he
 obtain ⟨g1, g2, g3, g4⟩ := ing_iff.1 hi
 obtain ⟨i, rfl⟩ := Int.eq_ofNat_of_zero_le g1
 obtain ⟨j, rfl⟩ := Int.eq_ofNat_of_zero_le g3
 have hin : i < m.length := by omega
 have hjn : j < m.length := by omega
 simp only [Bool.or_eq_true, Bool.and_eq_true, beq_iff_eq] at he
 rcases he with ⟨rfl, hb, hc⟩ | ⟨rfl, hb, hc⟩ | ⟨rfl, hb, hc⟩ | ⟨rfl, hb, hc⟩
 ·refine ⟨hi, (by decide : (0 : Int) ≤ 0), (by decide : (0 : Int) ≤ 3), ?_⟩
  obtain rfl : i = 0 := by omega
  show drw _ _ ((0 : Nat) : Int) (j : Int) 0 = true
  rw [drw_0 m hin hjn, beq_iff_eq]
  simp only [ps]; omega
 ·refine ⟨hi, (by decide : (0 : Int) ≤ 1), (by decide : (1 : Int) ≤ 3), ?_⟩
  show drw _ _ (i : Int) (j : Int) 1 = true
  rw [drw_1 m hin hjn, beq_iff_eq]
  have hj1 : j + 1 = m.length := by omega
  have := ps_all (h4 i hin).1
  rw [h3 i hin] at this
  rw [hj1, this]; omega
 ·refine ⟨hi, (by decide : (0 : Int) ≤ 2), (by decide : (2 : Int) ≤ 3), ?_⟩
  show drw _ _ (i : Int) (j : Int) 2 = true
  rw [drw_2 m hin hjn, beq_iff_eq]
  have hi1 : i + 1 = m.length := by omega
  have := ps_all (h4 j hjn).2
  rw [colL_length] at this
  rw [hi1, this]; omega
 ·refine ⟨hi, (by decide : (0 : Int) ≤ 3), (by decide : (3 : Int) ≤ 3), ?_⟩
  obtain rfl : j = 0 := by omega
  show drw _ _ (i : Int) ((0 : Nat) : Int) 3 = true
  rw [drw_3 m hin hjn, beq_iff_eq]
  simp only [ps]; omega
/-- The line from an end. -/
def lineOf (m : List (List Int)) (e : List Int) : List (List Int) × Int × Bool := (wy (r2 (acM m)) (r2 (dnM m)) m.length (rd e 1, rd e 2, rd e 0) 144 (rd e 1, rd e 2, rd e 0)).getD ([], 0, false)
theorem lineOf_ok {m : List (List Int)} (hs : isSign m = true) {e : List Int} (he : endsP m.length e = true) : wy (r2 (acM m)) (r2 (dnM m)) m.length (rd e 1, rd e 2, rd e 0) 144 (rd e 1, rd e 2, rd e 0) = some (lineOf m e) := by
 obtain ⟨r, hr⟩ := wy_some (isSign_facts hs).2.1 (lp_of hs).good _ (end_ok hs he).2
 unfold lineOf
 rw [hr]; rfl
theorem follow_f {m : List (List Int)} (hs : isSign m = true) {e : List Int} (he : endsP m.length e = true) : impl_Loops_follow.f m.length (acM m) (dnM m) (rd e 1) (rd e 2) (rd e 0) = some (foV m.length (lineOf m e)) := by
 unfold impl_Loops_follow.f
 rw [Int.toNat_natCast, lpB_of (isSign_facts hs).1 (lp_of hs), okB_iff.2 (end_ok hs he).2, lineOf_ok hs he]
 simp
theorem loops_f {m : List (List Int)} (hs : isSign m = true) : impl_loops.f m = some ((m.length : Int), acM m, dnM m) := by unfold impl_loops.f; rw [if_pos hs]
theorem fromEnd_ev {m : List (List Int)} (hs : isSign m = true) (i : Nat) (hi : i < 2 * m.length) : Ev (fun k => impl_Loops_fromEnd.f k m.length (acM m) (dnM m) i) (foV m.length (lineOf m ((endsL m.length).getD i []))) := by
 obtain ⟨h1, h2, _, _⟩ := isSign_facts hs
 have hE := ends_all h1 h2
 have hl : i < (endsL m.length).length := by rw [hE.len]; exact hi
 have he := ends_at hE i hl
 have h3 := (end_ok hs he).1
 unfold impl_Loops_fromEnd.f
 refine Ev.bind (ends_ev hE) (Ev.ite_pos (by omega) (Ev.ite_pos (by omega) ?_))
 rw [rd1_get]
 refine Ev.ite_pos (by omega) (Ev.ite_pos (by omega) (Ev.ite_pos (by omega) ?_))
 exact Ev.some_bind (follow_f hs he) (Ev.now _)
/-- How many points are on each line. -/
def lensM (m : List (List Int)) : List Int := (endsL m.length).map fun e => ((lineOf m e).1.length : Int)
theorem lensM_take (m : List (List Int)) (i : Nat) (hi : i < (endsL m.length).length) : (lensM m).take (i + 1) = (lensM m).take i ++ [((lineOf m ((endsL m.length).getD i [])).1.length : Int)] := by
 have hl : i < ((endsL m.length).map fun e => ((lineOf m e).1.length : Int)).length := by rw [List.length_map]; exact hi
 unfold lensM
 rw [List.take_succ_eq_append_getElem hl, List.getElem_map, List.getD_eq_getElem?_getD, List.getElem?_eq_getElem hi]; rfl
theorem impl_LineLengths_l0 {m : List (List Int)} (hs : isSign m = true) : ∀ (d i : Nat), i + d = 2 * m.length → Ev (fun k => impl_LineLengths.l0 k m ((lensM m).take i) ((2 * m.length : Nat) : Int) i) (lensM m, true) := by
 obtain ⟨h1, h2, _, _⟩ := isSign_facts hs
 have hE := ends_all h1 h2
 have hll : (lensM m).length = 2 * m.length := by unfold lensM; rw [List.length_map, hE.len]
 intro d
 induction d with
 | zero =>
  intro i hi
  refine Ev.step (fun k => by rw [impl_LineLengths.l0]) ?_
  rw [List.take_of_length_le (by omega)]
  exact Ev.ite_neg (by omega) (Ev.now _)
 | succ d ih =>
  intro i hi
  refine Ev.step (fun k => by rw [impl_LineLengths.l0]) ?_
  have hnext := ih (i + 1) (by omega)
  rw [lensM_take m i (by rw [hE.len]; omega)] at hnext
  refine Ev.ite_pos (by omega) (Ev.some_bind (loops_f hs) (Ev.bind (fromEnd_ev hs i (by omega)) (Ev.ite_pos (by rw [List.length_take]; omega) ?_)))
  rw [wrapS i (by omega)]
  exact hnext
theorem spec_LineLengths_l0 {m : List (List Int)} (hs : isSign m = true) : ∀ (d i : Nat), i + d = 2 * m.length → Ev (fun k => spec_LineLengths.l0 k ((lensM m).take i) (endsL m.length) (endsL m.length).length i m.length (acM m) (dnM m)) (lensM m, true) := by
 obtain ⟨h1, h2, _, _⟩ := isSign_facts hs
 have hE := ends_all h1 h2
 have hll : (lensM m).length = 2 * m.length := by unfold lensM; rw [List.length_map, hE.len]
 intro d
 induction d with
 | zero =>
  intro i hi
  refine Ev.step (fun k => by rw [spec_LineLengths.l0]) ?_
  rw [List.take_of_length_le (by omega), hE.len]
  exact Ev.ite_neg (by omega) (Ev.now _)
 | succ d ih =>
  intro i hi
  have hl : i < (endsL m.length).length := by rw [hE.len]; omega
  have he := ends_at hE i hl
  have h3 := (end_ok hs he).1
  refine Ev.step (fun k => by rw [spec_LineLengths.l0]) ?_
  have hnext := ih (i + 1) (by omega)
  rw [lensM_take m i hl] at hnext
  refine Ev.ite_pos (by omega) (Ev.ite_pos (by omega) (Ev.ite_pos (by omega) ?_))
  rw [rd1_get]
  refine Ev.ite_pos (by omega) (Ev.ite_pos (by omega) (Ev.ite_pos (by omega) ?_))
  refine Ev.bind (loWay_ev (lp_of hs) (bits_of m) _ _ _ _ (end_ok hs he).2 (lineOf_ok hs he)) (Ev.ite_pos (by rw [List.length_take]; omega) ?_)
  rw [wrapS i (by omega)]
  exact hnext
theorem bothLineLengths (l : List (List Int)) (hf : fewRows l) : ∃ (r : List Int) (b : Bool), r.length ≤ 1048576 ∧ Ev (fun k => spec_LineLengths.f k l) (r, b) ∧ Ev (fun k => impl_LineLengths.f k l) (r, b) := by
 unfold spec_LineLengths.f impl_LineLengths.f
 cases hs : isSign l with
 | false =>
  have e1 : impl_IsSignMatrix.f l = some false := by unfold impl_IsSignMatrix.f; rw [hs]
  exact ⟨[], false, by simp, Ev.bind (hs ▸ sgGood_ev l hf) (Ev.ite_neg (by simp) (Ev.now _)), Ev.some_bind e1 (Ev.ite_neg (by simp) (Ev.now _))⟩
 | true =>
  obtain ⟨h1, h2, _, _⟩ := isSign_facts hs
  have hE := ends_all h1 h2
  have e1 : impl_IsSignMatrix.f l = some true := by unfold impl_IsSignMatrix.f; rw [hs]
  refine ⟨lensM l, true, by unfold lensM; rw [List.length_map, hE.len]; omega, Ev.bind (hs ▸ sgGood_ev l hf) (Ev.ite_pos rfl (Ev.bind (loOf_ev l hs) (Ev.bind (ends_ev2 hE) ?_))), Ev.some_bind e1 (Ev.ite_pos rfl ?_)⟩
  ·exact spec_LineLengths_l0 hs (2 * l.length) 0 (by omega)
  ·rw [show wrap64 (2 * (l.length : Int)) = ((2 * l.length : Nat) : Int) by unfold wrap64; omega]
   exact impl_LineLengths_l0 hs (2 * l.length) 0 (by omega)
/-- The points of a line are few. -/
theorem line_few {m : List (List Int)} (hs : isSign m = true) {e : List Int} (he : endsP m.length e = true) : fewRows (lineOf m e).1 := by
 obtain ⟨w1, w2, _⟩ := wy_what (lp_of hs).good _ 144 _ _ (end_ok hs he).2 (lineOf_ok hs he)
 refine ⟨by omega, fun r hr => ?_⟩
 obtain ⟨i, j, rfl, _⟩ := w2 r hr
 simp
theorem bothWayFrom (l : List (List Int)) (x : Int) (hf : fewRows l) : ∃ (r : List (List Int)) (b : Bool), fewRows r ∧ Ev (fun k => spec_WayFrom.f k l x) (r, b) ∧ Ev (fun k => impl_WayFrom.f k l x) (r, b) := by
 have h0 : fewRows ([] : List (List Int)) := ⟨by simp, fun r hr => by cases hr⟩
 unfold spec_WayFrom.f impl_WayFrom.f
 cases hs : isSign l with
 | false =>
  have e1 : impl_IsSignMatrix.f l = some false := by unfold impl_IsSignMatrix.f; rw [hs]
  refine ⟨[], false, h0, Ev.bind (hs ▸ sgGood_ev l hf) (Ev.ite_neg (by simp) ?_), Ev.some_bind e1 (Ev.ite_neg (by simp) ?_)⟩
  ·refine Ev.step (fun k => by rw [spec_WayFrom.j0]) ?_
   exact Ev.ite_pos rfl (Ev.now _)
  ·refine Ev.step (fun k => by rw [impl_WayFrom.j0]) ?_
   exact Ev.ite_pos rfl (Ev.now _)
 | true =>
  obtain ⟨h1, h2, _, _⟩ := isSign_facts hs
  have hE := ends_all h1 h2
  have e1 : impl_IsSignMatrix.f l = some true := by unfold impl_IsSignMatrix.f; rw [hs]
  have e2 : wrap64 (wrap64 (2 * (l.length : Int)) - 1) = 2 * (l.length : Int) - 1 := by unfold wrap64; omega
  have e3 : impl_within.f x 0 (2 * (l.length : Int) - 1) = some (inB x 0 (2 * (l.length : Int) - 1)) := rfl
  have e4 : spec_l1In.f x 0 (2 * (l.length : Int) - 1) = some (inB x 0 (2 * (l.length : Int) - 1)) := by
   unfold spec_l1In.f inB
   by_cases h : x ≥ 0
   ·rw [if_pos h, decide_eq_true (show 0 ≤ x from h), Bool.true_and]
   ·rw [if_neg h, decide_eq_false (show ¬ 0 ≤ x from h), Bool.false_and]
  rw [e2]
  cases hx : inB x 0 (2 * (l.length : Int) - 1) with
  | false =>
   rw [hx] at e3 e4
   refine ⟨[], false, h0, Ev.bind (hs ▸ sgGood_ev l hf) (Ev.ite_pos rfl (Ev.some_bind e4 ?_)), Ev.some_bind e1 (Ev.ite_pos rfl (Ev.some_bind e3 ?_))⟩
   ·refine Ev.step (fun k => by rw [spec_WayFrom.j0]) ?_
    exact Ev.ite_pos rfl (Ev.now _)
   ·refine Ev.step (fun k => by rw [impl_WayFrom.j0]) ?_
    exact Ev.ite_pos rfl (Ev.now _)
  | true =>
   rw [hx] at e3 e4
   obtain ⟨x0, x1⟩ := (inB_iff _ _ _).1 hx
   obtain ⟨i, rfl⟩ := Int.eq_ofNat_of_zero_le x0
   have hl : i < (endsL l.length).length := by rw [hE.len]; omega
   have he := ends_at hE i hl
   have h3 := (end_ok hs he).1
   refine ⟨(lineOf l ((endsL l.length).getD i [])).1, true, line_few hs he, Ev.bind (hs ▸ sgGood_ev l hf) (Ev.ite_pos rfl (Ev.some_bind e4 ?_)), Ev.some_bind e1 (Ev.ite_pos rfl (Ev.some_bind e3 ?_))⟩
   ·refine Ev.step (fun k => by rw [spec_WayFrom.j0]) ?_
    refine Ev.ite_neg (by simp) (Ev.bind (ends_ev2 hE) (Ev.ite_pos (by omega) (Ev.ite_pos (by omega) (Ev.bind (loOf_ev l hs) ?_))))
    rw [rd1_get]
    refine Ev.ite_pos (by omega) (Ev.ite_pos (by omega) (Ev.ite_pos (by omega) ?_))
    exact Ev.bind (loWay_ev (lp_of hs) (bits_of l) _ _ _ _ (end_ok hs he).2 (lineOf_ok hs he)) (Ev.now _)
   ·refine Ev.step (fun k => by rw [impl_WayFrom.j0]) ?_
    refine Ev.ite_neg (by simp) (Ev.some_bind (loops_f hs) (Ev.bind (fromEnd_ev hs i (by omega)) (Ev.now _)))
end Go.Proofs.Ythbkjaieenochaa.L
