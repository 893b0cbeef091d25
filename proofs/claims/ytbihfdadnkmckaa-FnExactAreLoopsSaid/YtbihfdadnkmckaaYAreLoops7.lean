/- Texts of one chain, in build order. -/
import Derived.Test.YtbihfdadnkmckaaYAreLoops6
namespace Go.Proofs.Ytbihfdadnkmckaa.L
open Go.RowKit Go.Proofs.Ytbihfdadnkmckaa Go.Proofs.Ytbihfdadnkmckaa.P Go.Proofs.YtbihfdadnkmckaaW.PrintWords Go.Proofs.YtbihfdadnkmckaaW.PrintLast Go.Proofs.YtbihfdadnkmckaaW.PrintMore
set_option linter.unusedVariables false

theorem points_end (n : Nat) (a d : List (List Int)) (i : Nat) : pointsB n a d i n = true := by unfold pointsB; rw [Nat.sub_self]; rfl
theorem points_step (n : Nat) (a d : List (List Int)) (i j : Nat) (h : j < n) : pointsB n a d i j = (vertB a d i j && pointsB n a d i (j + 1)) := by
 unfold pointsB
 obtain ⟨k, hk⟩ : ∃ k, n - j = k + 1 := ⟨n - j - 1, by omega⟩
 rw [hk, show n - (j + 1) = k by omega, List.range'_succ, List.all_cons]
theorem good_end (n : Nat) (a d : List (List Int)) : goodB n a d n = true := by unfold goodB; rw [Nat.sub_self]; rfl
theorem good_step (n : Nat) (a d : List (List Int)) (i : Nat) (h : i < n) : goodB n a d i = ((bordB n a d i && pointsB n a d i 0) && goodB n a d (i + 1)) := by
 unfold goodB
 obtain ⟨k, hk⟩ : ∃ k, n - i = k + 1 := ⟨n - i - 1, by omega⟩
 rw [hk, show n - (i + 1) = k by omega, List.range'_succ, List.all_cons]
theorem w64k {x : Int} (h0 : -1000 ≤ x) (h1 : x ≤ 1000) : wrap64 x = x := by unfold wrap64; omega
theorem tm2 {x : Int} (h : 0 ≤ x) : Int.tmod x 2 = x % 2 := Int.tmod_eq_emod_of_nonneg h
theorem good_l1 {n : Nat} {a d : List (List Int)} (h : LpT n a d) (i : Nat) (hi : i < n) (rest : Bool) (hr : Ev (fun k => spec_loGood.l0 k n ((i + 1 : Nat) : Int) n a d) rest) :
  ∀ (q j : Nat), j + q = n → Ev (fun k => spec_loGood.l1 k n i j n a d) (pointsB n a d i j && rest) := by
 have h6 := h.n6
 intro q
 induction q with
 | zero =>
  intro j hj
  obtain rfl : j = n := by omega
  refine Ev.step (fun k => by rw [spec_loGood.l1]) ?_
  rw [points_end, Bool.true_and, wrapS i (by omega)]
  exact Ev.ite_neg (by omega) hr
 | succ q ih =>
  intro j hj
  have hjn : j < n := by omega
  have la := h.la
  have ld := h.ld
  have ra := h.ra i hi
  have r0 := h.rd' i (by omega)
  have r1 := h.rd' (i + 1) (by omega)
  have x0 := h.a01 i j hi (by omega)
  have x1 := h.a01 i (j + 1) hi (by omega)
  have y0 := h.d01 i j (by omega) hjn
  have y1 := h.d01 (i + 1) j (by omega) hjn
  refine Ev.step (fun k => by rw [spec_loGood.l1]) ?_
  rw [wrapS i (by omega), wrapS j (by omega), rd1_get, rd1_get, rd1_get]
  refine Ev.ite_pos (by omega) (Ev.ite_pos (by omega) (Ev.ite_pos (by omega) (Ev.ite_pos (by omega) (Ev.ite_pos (by omega) (Ev.ite_pos (by omega) (Ev.ite_pos (by omega) (Ev.ite_pos (by omega) (Ev.ite_pos (by omega) (Ev.ite_pos (by omega) (Ev.ite_pos (by omega) (Ev.ite_pos (by omega) ?_)))))))))))
  change Ev (fun k => if wrap64 (wrap64 (wrap64 (eA a i j + eA a i (j + 1)) + eA d i j) + eA d (i + 1) j) = 2 then _ else _) _
  rw [w64k (x := eA a i j + eA a i (j + 1)) (by omega) (by omega), w64k (x := eA a i j + eA a i (j + 1) + eA d i j) (by omega) (by omega), w64k (by omega) (by omega), points_step n a d i j hjn]
  by_cases hv : eA a i j + eA a i (j + 1) + eA d i j + eA d (i + 1) j = 2
  ·rw [show vertB a d i j = true from beq_iff_eq.2 hv, Bool.true_and]
   exact Ev.ite_pos hv (ih (j + 1) (by omega))
  ·rw [show vertB a d i j = false from beq_eq_false_iff_ne.2 hv, Bool.false_and, Bool.false_and]
   exact Ev.ite_neg hv (Ev.now _)
theorem good_l0 {n : Nat} {a d : List (List Int)} (h : LpT n a d) : ∀ (q i : Nat), i + q = n → Ev (fun k => spec_loGood.l0 k n i n a d) (goodB n a d i) := by
 have h6 := h.n6
 intro q
 induction q with
 | zero =>
  intro i hi
  obtain rfl : i = n := by omega
  refine Ev.step (fun k => by rw [spec_loGood.l0]) ?_
  rw [good_end]
  exact Ev.ite_neg (by omega) (Ev.now _)
 | succ q ih =>
  intro i hi
  have hin : i < n := by omega
  have la := h.la
  have ld := h.ld
  have ra := h.ra i hin
  have r0 := h.rd' 0 (by omega)
  have rn := h.rd' n (by omega)
  have hP := good_l1 h i hin _ (ih (i + 1) (by omega)) n 0 (by omega)
  have jT : Ev (fun k => spec_loGood.j1 k n i true n a d) false := Ev.step (fun k => by rw [spec_loGood.j1]) (Ev.ite_pos rfl (Ev.now _))
  have jF : Ev (fun k => spec_loGood.j1 k n i false n a d) (pointsB n a d i 0 && goodB n a d (i + 1)) := by
   refine Ev.step (fun k => by rw [spec_loGood.j1]) ?_
   exact Ev.ite_neg (by simp) hP
  refine Ev.step (fun k => by rw [spec_loGood.l0]) ?_
  have q4 : wrap64 (1 - ((n : Int) + i) % 2) = 1 - ((n : Int) + i) % 2 := w64k (by omega) (by omega)
  have Q4 := Aside0.mk q4
  clear q4
  have q1 : wrap64 (1 - (i : Int) % 2) = 1 - (i : Int) % 2 := w64k (by omega) (by omega)
  have Q1 := Aside0.mk q1
  clear q1
  have E2 := Aside0.mk (show Int.tmod (wrap64 ((n : Int) + i)) 2 = ((n : Int) + i) % 2 by rw [w64k (x := (n : Int) + i) (by omega) (by omega), tm2 (by omega)])
  have E3 := Aside0.mk (show Int.tmod (i : Int) 2 = (i : Int) % 2 from tm2 (by omega))
  have z1 : rd_L1 d 0 = d.getD 0 [] := rfl
  rw [E2.out, E3.out, Q4.out, Q1.out, rd1_get a i, rd1_get d n, z1, good_step n a d i hin]
  refine Ev.ite_pos (by omega) (Ev.ite_pos (by omega) (Ev.ite_pos (by omega) (Ev.ite_pos (by omega) ?_)))
  by_cases b1 : eA a i 0 = 1 - (i : Int) % 2
  case neg =>
   rw [show bordB n a d i = false by unfold bordB; rw [beq_eq_false_iff_ne.2 b1]; rfl, Bool.false_and, Bool.false_and]
   exact Ev.ite_neg b1 jT
  refine Ev.ite_pos b1 (Ev.ite_pos (by omega) (Ev.ite_pos (by omega) ?_))
  by_cases b2 : eA a i n = ((n : Int) + i) % 2
  case neg =>
   rw [show bordB n a d i = false by unfold bordB; rw [beq_eq_false_iff_ne.2 b2, Bool.false_and, Bool.and_false], Bool.false_and, Bool.false_and]
   exact Ev.ite_neg b2 jT
  refine Ev.ite_pos b2 (Ev.ite_pos (by omega) (Ev.ite_pos (by omega) ?_))
  by_cases b3 : eA d 0 i = (i : Int) % 2
  case neg =>
   rw [show bordB n a d i = false by unfold bordB; rw [beq_eq_false_iff_ne.2 b3, Bool.false_and, Bool.and_false, Bool.and_false], Bool.false_and, Bool.false_and]
   exact Ev.ite_neg b3 jT
  refine Ev.ite_pos b3 (Ev.ite_pos (by omega) (Ev.ite_pos (by omega) ?_))
  change Ev (fun k => spec_loGood.j1 k n i (eA d n i != 1 - ((n : Int) + i) % 2) n a d) _
  by_cases b4 : eA d n i = 1 - ((n : Int) + i) % 2
  case neg =>
   rw [show bordB n a d i = false by unfold bordB; rw [beq_eq_false_iff_ne.2 b4, Bool.and_false, Bool.and_false, Bool.and_false], Bool.false_and, Bool.false_and, bne_iff_ne.2 b4]
   exact jT
  rw [show bordB n a d i = true by unfold bordB; rw [beq_iff_eq.2 b1, beq_iff_eq.2 b2, beq_iff_eq.2 b3, beq_iff_eq.2 b4]; rfl, Bool.true_and, show (eA d n i != 1 - ((n : Int) + i) % 2) = false from bne_eq_false_iff_eq.2 b4]
  exact jF
theorem loGood_ev (n : Int) (a d : List (List Int)) (ha : fewRows a) (hd : fewRows d) : Ev (fun k => spec_loGood.f k n a d) (shapeP n a d && goodB n.toNat a d 0) := by
 unfold spec_loGood.f
 refine Ev.bind (shape_ev n a d ha hd) ?_
 cases hs : shapeB n a d with
 | false =>
  rw [show shapeP n a d = false from hs, Bool.false_and]
  exact Ev.ite_neg (by simp) (Ev.now _)
 | true =>
  rw [show shapeP n a d = true from hs, Bool.true_and]
  obtain ⟨k, rfl, hL⟩ := lpT_of (show shapeP n a d = true from hs)
  rw [Int.toNat_natCast]
  exact Ev.ite_pos rfl (good_l0 hL k 0 (by omega))
theorem areLoops_ev (n : Int) (a d : List (List Int)) (ha : fewRows a) (hd : fewRows d) : Ev (fun k => spec_AreLoops.f k n a d) (fromR n a d).2 := by
 unfold spec_AreLoops.f
 refine Ev.bind (loGood_ev n a d ha hd) ?_
 have e : (fromR n a d).2 = (shapeP n a d && goodB n.toNat a d 0) := by
  rw [fromR_eq]
  cases shapeP n a d && goodB n.toNat a d 0 <;> rfl
 rw [e]
 exact Ev.now _

def ptF (a : List (List Int)) (i j : Nat) (p q : Nat) : Int := if p < i ∨ (p = i ∧ q < j) then numF a p q else 0
def ptT (n : Nat) (a : List (List Int)) (i j : Nat) : List (List Int) := tableL (ptF a i j) n n
theorem pt_row (n : Nat) (a : List (List Int)) (i : Nat) : ptT n a i n = ptT n a (i + 1) 0 := by
 unfold ptT tableL
 apply List.map_congr_left
 intro p hp
 unfold rowL
 apply List.map_congr_left
 intro q hq
 have := List.mem_range.1 hq
 unfold ptF
 by_cases h : p < i ∨ (p = i ∧ q < n)
 ·rw [if_pos h, if_pos (by omega)]
 ·rw [if_neg h, if_neg (by omega)]
theorem pt_end (n : Nat) (a : List (List Int)) : ptT n a n 0 = fromM n a := by
 unfold ptT fromM tableL
 rw [Int.toNat_natCast]
 apply List.map_congr_left
 intro p hp
 have := List.mem_range.1 hp
 unfold rowL
 apply List.map_congr_left
 intro q hq
 unfold ptF
 rw [if_pos (.inl this)]
theorem getD_set_eq (T : List (List Int)) (i : Nat) (R : List Int) (p : Nat) (hi : i < T.length) : (T.set i R).getD p [] = if p = i then R else T.getD p [] := by
 rw [List.getD_eq_getElem?_getD, List.getElem?_set, List.getD_eq_getElem?_getD]
 by_cases h : p = i
 ·subst h; rw [if_pos rfl, if_pos rfl, if_pos hi]; rfl
 ·rw [if_neg (fun e => h e.symm), if_neg h]
theorem rd_setN (l : List Int) (i q : Nat) (x : Int) (hi : i < l.length) : rd (l.set i x) (q : Int) = if q = i then x else rd l (q : Int) := by
 unfold rd
 rw [Int.toNat_natCast, List.getD_eq_getElem?_getD, List.getElem?_set, List.getD_eq_getElem?_getD]
 by_cases h : q = i
 ·subst h; rw [if_pos rfl, if_pos rfl, if_pos hi]; rfl
 ·rw [if_neg (fun e => h e.symm), if_neg h]
theorem pt_set (n : Nat) (a : List (List Int)) (i j : Nat) (hi : i < n) (hj : j < n) : (ptT n a i j).set i (((ptT n a i j).getD i []).set j (numF a i j)) = ptT n a i (j + 1) := by
 have hl : (ptT n a i j).length = n := tableL_length _ _ _
 have hr : ∀ p, p < n → (ptT n a i j).getD p [] = rowL (ptF a i j) p n := fun p hp => tableL_get _ _ _ _ hp
 refine (tableL_eq (by rw [List.length_set, hl]) (fun p hp => ?_) (fun p q hp hq => ?_)).symm
 ·rw [getD_set_eq _ _ _ _ (by omega)]
  split
  ·rw [List.length_set, hr i hi, rowL_length]
  ·rw [hr p hp, rowL_length]
 ·unfold eA
  rw [getD_set_eq _ _ _ _ (by omega)]
  by_cases hpi : p = i
  ·rw [if_pos hpi, hr i hi, rd_setN _ _ _ _ (by rw [rowL_length]; exact hj), rd_rowL _ _ _ _ hq]
   unfold ptF
   by_cases hqj : q = j
   ·rw [if_pos hqj, if_pos (by omega), hpi, hqj]
   ·rw [if_neg hqj]
    by_cases h : p < i ∨ (p = i ∧ q < j + 1)
    ·rw [if_pos h, if_pos (by omega), hpi]
    ·rw [if_neg h, if_neg (by omega)]
  ·rw [if_neg hpi, hr p hp, rd_rowL _ _ _ _ hq]
   unfold ptF
   by_cases h : p < i ∨ (p = i ∧ q < j + 1)
   ·rw [if_pos h, if_pos (by omega)]
   ·rw [if_neg h, if_neg (by omega)]
theorem sgZero_l0 (n : Nat) (h6 : n ≤ 6) : ∀ (q i : Nat), i + q = n → Ev (fun k => spec_sgZero.l0 k n (List.replicate i (List.replicate n 0)) i) (List.replicate n (List.replicate n 0)) := by
 intro q
 induction q with
 | zero =>
  intro i hi
  obtain rfl : i = n := by omega
  refine Ev.step (fun k => by rw [spec_sgZero.l0]) ?_
  exact Ev.ite_neg (by omega) (Ev.now _)
 | succ q ih =>
  intro i hi
  refine Ev.step (fun k => by rw [spec_sgZero.l0]) ?_
  rw [wrapS i (by omega), Int.toNat_natCast, ← List.replicate_succ']
  exact Ev.ite_pos (by omega) (Ev.ite_pos (by omega) (Ev.ite_pos (by omega) (Ev.ite_pos (by rw [List.length_replicate]; omega) (ih (i + 1) (by omega)))))
theorem zero_pt (n : Nat) (a : List (List Int)) : List.replicate n (List.replicate n 0) = ptT n a 0 0 := by
 refine (tableL_eq (by rw [List.length_replicate]) (fun i hi => ?_) (fun i j hi hj => ?_)).symm
 ·simp [List.getD_eq_getElem?_getD, hi]
 ·unfold ptF
  rw [if_neg (by omega)]
  unfold eA rd
  rw [Int.toNat_natCast]
  simp [List.getD_eq_getElem?_getD, hi, hj]
theorem from_l1 {n : Nat} {a d : List (List Int)} (h : LpT n a d) (i : Nat) (hi : i < n) (r : List (List Int) × Bool) (hr : Ev (fun k => spec_FromLoops.l0 k (ptT n a (i + 1) 0) n ((i + 1 : Nat) : Int) n a d) r) :
  ∀ (q j : Nat), j + q = n → Ev (fun k => spec_FromLoops.l1 k (ptT n a i j) i n i n j n a d) r := by
 have h6 := h.n6
 intro q
 induction q with
 | zero =>
  intro j hj
  obtain rfl : j = n := by omega
  refine Ev.step (fun k => by rw [spec_FromLoops.l1]) ?_
  rw [pt_row, wrapS i (by omega)]
  exact Ev.ite_neg (by omega) hr
 | succ q ih =>
  intro j hj
  have hjn : j < n := by omega
  have la := h.la
  have ra := h.ra i hi
  have x0 := h.a01 i j hi (by omega)
  have x1 := h.a01 i (j + 1) hi (by omega)
  have hl : (ptT n a i j).length = n := tableL_length _ _ _
  have hrow : ((ptT n a i j).getD i []).length = n := by rw [ptT, tableL_get _ _ _ _ hi, rowL_length]
  have hnext := ih (j + 1) (by omega)
  rw [← pt_set n a i j hi hjn] at hnext
  refine Ev.step (fun k => by rw [spec_FromLoops.l1]) ?_
  rw [wrapS j (by omega), rd1_get, rd1_get, Int.toNat_natCast, Int.toNat_natCast]
  have e : wrap64 (Int.tmod (wrap64 (wrap64 (wrap64 (wrap64 (1 - rd (a.getD i []) ((j + 1 : Nat) : Int)) + i) + j) + 1)) 2 - Int.tmod (wrap64 (wrap64 (wrap64 (1 - rd (a.getD i []) (j : Int)) + i) + j)) 2) = numF a i j := by
   change wrap64 (Int.tmod (wrap64 (wrap64 (wrap64 (wrap64 (1 - eA a i (j + 1)) + i) + j) + 1)) 2 - Int.tmod (wrap64 (wrap64 (wrap64 (1 - eA a i j) + i) + j)) 2) = numF a i j
   rw [w64k (x := 1 - eA a i (j + 1)) (by omega) (by omega), w64k (x := 1 - eA a i (j + 1) + i) (by omega) (by omega), w64k (x := 1 - eA a i (j + 1) + i + j) (by omega) (by omega), w64k (x := 1 - eA a i (j + 1) + i + j + 1) (by omega) (by omega),
    w64k (x := 1 - eA a i j) (by omega) (by omega), w64k (x := 1 - eA a i j + i) (by omega) (by omega), w64k (x := 1 - eA a i j + i + j) (by omega) (by omega), tm2 (by omega), tm2 (by omega), w64k (by omega) (by omega)]
   unfold numF
   rw [bef_e h hi (by omega), bef_e h hi (by omega)]
   omega
  rw [e]
  exact Ev.ite_pos (by omega) (Ev.ite_pos (by omega) (Ev.ite_pos (by omega) (Ev.ite_pos (by omega) (Ev.ite_pos (by omega) (Ev.ite_pos (by omega) (Ev.ite_pos (by omega) (Ev.ite_pos (by omega) (Ev.ite_pos (by omega) hnext))))))))
theorem from_l0 {n : Nat} {a d : List (List Int)} (h : LpT n a d) : ∀ (q i : Nat), i + q = n → Ev (fun k => spec_FromLoops.l0 k (ptT n a i 0) n i n a d) (fromM n a, true) := by
 have h6 := h.n6
 intro q
 induction q with
 | zero =>
  intro i hi
  obtain rfl : i = n := by omega
  refine Ev.step (fun k => by rw [spec_FromLoops.l0]) ?_
  rw [pt_end]
  exact Ev.ite_neg (by omega) (Ev.now _)
 | succ q ih =>
  intro i hi
  refine Ev.step (fun k => by rw [spec_FromLoops.l0]) ?_
  have hl : (ptT n a i 0).length = n := tableL_length _ _ _
  rw [hl]
  exact Ev.ite_pos (by omega) (from_l1 h i (by omega) _ (ih (i + 1) (by omega)) n 0 (by omega))
theorem fromLoops_ev (n : Int) (a d : List (List Int)) (ha : fewRows a) (hd : fewRows d) : Ev (fun k => spec_FromLoops.f k n a d) (fromR n a d) := by
 unfold spec_FromLoops.f
 refine Ev.bind (loGood_ev n a d ha hd) ?_
 rw [fromR_eq]
 by_cases hg : (shapeP n a d && goodB n.toNat a d 0) = true
 ·rw [if_pos hg, hg]
  rw [Bool.and_eq_true] at hg
  obtain ⟨k, rfl, hL⟩ := lpT_of hg.1
  have h6 := hL.n6
  refine Ev.ite_pos rfl (Ev.bind (a := List.replicate k (List.replicate k 0)) ?_ ?_)
  ·unfold spec_sgZero.f
   exact sgZero_l0 k h6 k 0 (by omega)
  ·rw [List.length_replicate, zero_pt k a]
   exact from_l0 hL k 0 (by omega)
 ·rw [if_neg hg]
  exact Ev.ite_neg hg (Ev.now _)
theorem fromR_few (n : Int) (a d : List (List Int)) : fewRows (fromR n a d).1 := by
 rw [fromR_eq]
 by_cases hg : (shapeP n a d && goodB n.toNat a d 0) = true
 ·rw [if_pos hg]
  rw [Bool.and_eq_true] at hg
  obtain ⟨k, rfl, hL⟩ := lpT_of hg.1
  have h6 := hL.n6
  refine ⟨by rw [fromM_length]; omega, fun r hr => ?_⟩
  obtain ⟨i, hi, rfl⟩ := List.getElem_of_mem hr
  rw [← getD_at _ [] i hi, fromM_row a (by rw [fromM_length] at hi; exact hi), rowL_length]
  omega
 ·rw [if_neg hg]
  exact ⟨by simp, fun r hr => by cases hr⟩
end Go.Proofs.Ytbihfdadnkmckaa.L

namespace Go.Proofs.Ytbihfdadnkmckaa.P
open Go.RowKit Go.Proofs.YtbihfdadnkmckaaW.PrintWords Go.Proofs.YtbihfdadnkmckaaW.PrintLast Go.Proofs.YtbihfdadnkmckaaW.PrintMore
attribute [local go_sem] max2_int min2_int max_two min_two max_three min_three max_four min_four   -- for this text's walks alone
set_option linter.unusedVariables false
set_option linter.unusedSimpArgs false

def impl_AreLoops.f (a0_0 : Int) (l0_1 : List (List Int)) (l0_2 : List (List Int)) : Option (Bool) := (impl_FromLoops.f a0_0 l0_1 l0_2).bind fun bt266 => (some bt266.2)
set_option maxHeartbeats 8000000 in
set_option maxRecDepth 100000 in
theorem impl_AreLoops.calls (a0_0 : Int) (A0_1 : Option Addr) (c0_1 : Nat) (l0_1 : List (List Int)) (A0_2 : Option Addr) (c0_2 : Nat) (l0_2 : List (List Int)) (r : Bool) (w : World) (hr0_1 : Kd.C (Kd.slice 3 (Kd.int .i64)) w A0_1 l0_1.length l0_1) (hc0_1 : l0_1.length ≤ c0_1) (hr0_2 : Kd.C (Kd.slice 3 (Kd.int .i64)) w A0_2 l0_2.length l0_2) (hc0_2 : l0_2.length ≤ c0_2) (h : impl_AreLoops.f a0_0 l0_1 l0_2 = some r) :
  Calls Try.prog 18 #[.agg #[.int .i64 a0_0, .slice A0_1 l0_1.length c0_1, .slice A0_2 l0_2.length c0_2]] w fun e w' => e = .returned (.bool r) ∧ Below w.heap.size w w' := by
 have hu25 := Try.underlying25
 have HR0_1 := Aside0.mk hr0_1
 have HC0_1 := Aside0.mk hc0_1
 clear hr0_1 hc0_1
 have HR0_2 := Aside0.mk hr0_2
 have HC0_2 := Aside0.mk hc0_2
 clear hr0_2 hc0_2
 have HB := Aside0.mk (Below.refl w.heap.size w)
 have H : ((impl_FromLoops.f a0_0 l0_1 l0_2).bind fun bt266 => (some bt266.2)) = some r := h
 clear h
 replace H := Option.bind_eq_some_iff.mp H
 obtain ⟨⟨t266, t269⟩, A20, H⟩ := H
 replace H : (some t269) = some r := H
 have A2 := Aside0.mk A20
 clear A20
 obtain rfl := Option.some.inj H
 go_enter Try.func18, Try.ntmps18
 go_wp2_with (first | ((with_reducible refine gate_dst (N := 1) rfl ?_); refine box_event ?hg (N := 1) ?hd (cs := #[.int .i64 a0_0, .slice A0_1 l0_1.length c0_1, .slice A0_2 l0_2.length c0_2]) (t := 25) ?hr ?_; (case hd => rfl); (case hg => rfl); (case hr => first | (go_simp; done) | (go_simp; rfl)); intro gb265 hg w3 hbox hb; have n0_ := Aside0.mk (below_step (by repeat (first | (with_reducible first | exact HB.out | apply below_alloc | apply pw_below_drewN | apply below_drew1) | exact HB.out)) hb); have n1_ := Aside0.mk (hbox); have n2_ := Aside0.mk ((by rw [hg]; exact (below_size (by repeat (first | (with_reducible first | exact HB.out | apply below_alloc | apply pw_below_drewN | apply below_drew1) | exact HB.out))) : w.heap.size ≤ gb265)); have n3_ := Aside0.mk ((by rw [hg]; exact (below_size (by repeat (first | (with_reducible first | exact HB.out | apply below_alloc | apply pw_below_drewN | apply below_drew1) | exact HB.out))) : w.heap.size ≤ gb265)); clear HB; have HB := n0_; have BK265 := n1_; have GW265 := n2_; have GE265 := n3_; clear n0_ n1_ n2_ n3_; clear hb hbox hg; have hcz4_0 : w3.cell? ⟨gb265, 0, none⟩ = some (.int .i64 a0_0) := (blk_cell BK265.out 0).trans rfl; have hcz4_1 : w3.cell? ⟨gb265, 1, none⟩ = some (.slice A0_1 l0_1.length c0_1) := (blk_cell BK265.out 1).trans rfl; have hcz4_2 : w3.cell? ⟨gb265, 2, none⟩ = some (.slice A0_2 l0_2.length c0_2) := (blk_cell BK265.out 2).trans rfl; have hfz4_0 := blk_frozen BK265.out 0; have hfz4_1 := blk_frozen BK265.out 1; have hfz4_2 := blk_frozen BK265.out 2) | ((with_reducible refine gate_callee (f := 20) rfl ?_); refine goesL_ (some 7) rfl rfl Try.func20 (by kernel_rfl) rfl #[.agg #[.int .i64 a0_0, .slice A0_1 l0_1.length c0_1, .slice A0_2 l0_2.length c0_2]] rfl (by (try simp only [List.map_toArray, List.map_cons, List.map_nil]); first | done | rfl | (simp only [List.length_drop, List.length_take]; rfl)) ?_; (with_reducible refine (impl_FromLoops.calls a0_0 _ _ l0_1 _ _ l0_2 t266 t269 _ ?side1 ?side2 ?side3 ?side4 A2.out).mono ?_); (case side1 => repeat (first | exact (Kd.C_below HR0_1.out HB.out) | (with_reducible refine Kd.C_alloc ?_ _) | (with_reducible refine Kd.C_drewN ?_ _) | (with_reducible refine Kd.C_drew ?_))); (case side2 => exact HC0_1.out); (case side3 => repeat (first | exact (Kd.C_below HR0_2.out HB.out) | (with_reducible refine Kd.C_alloc ?_ _) | (with_reducible refine Kd.C_drewN ?_ _) | (with_reducible refine Kd.C_drew ?_))); (case side4 => exact HC0_2.out); rintro e w5 ⟨v267, rfl, ho0, hb⟩; refine ⟨_, rfl, ?_⟩; have n0_ := Aside0.mk (Kd.S_lower ho0 (below_size (by repeat (first | (with_reducible first | exact HB.out | apply below_alloc | apply pw_below_drewN | apply below_drew1 | refine below_set ?_ GE265.out) | exact HB.out)))); have n1_ := Aside0.mk (blk_below (g := gb265) (o := .cells #[.int .i64 a0_0, .slice A0_1 l0_1.length c0_1, .slice A0_2 l0_2.length c0_2] 25 (0, 0)) (by (with_reducible repeat (first | refine blk_drewN ?_ _ | refine blk_drew ?_ | refine blk_alloc ?_ _)); exact BK265.out) hb); have n2_ := Aside0.mk (below_step (by repeat (first | (with_reducible first | exact HB.out | apply below_alloc | apply pw_below_drewN | apply below_drew1 | refine below_set ?_ GE265.out) | exact HB.out)) hb); clear BK265; clear HB; have HO268 := n0_; have BK265 := n1_; have HB := n2_; clear n0_ n1_ n2_; (try clear hb); (try clear hb2); (try clear hk); (try clear hi); (try clear ho0)))
 go_ret
 exact ⟨by first | rfl | (simp [errW_none, errW_some] <;> rfl) | (simp [*, errW_none, errW_some] <;> rfl), by repeat (first | (with_reducible first | exact HB.out | apply below_alloc | apply pw_below_drewN | apply below_drew1 | refine below_set ?_ GE265.out) | exact HB.out)⟩

end Go.Proofs.Ytbihfdadnkmckaa.P
