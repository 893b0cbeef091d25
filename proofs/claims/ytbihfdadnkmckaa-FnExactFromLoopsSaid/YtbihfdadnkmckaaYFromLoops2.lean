/- Texts of one chain, in build order. -/
import Derived.Test.YtbihfdadnkmckaaYFromLoops1
namespace Go.Proofs.Ytbihfdadnkmckaa
open Go.RowKit Go.Proofs.YtbihfdadnkmckaaW.PrintWords Go.Proofs.YtbihfdadnkmckaaW.PrintLast Go.Proofs.YtbihfdadnkmckaaW.PrintMore
set_option linter.unusedVariables false

/-- The edge of a table at a place. -/
def eA (a : List (List Int)) (i j : Nat) : Int := rd (a.getD i []) (j : Int)
structure LpT (n : Nat) (a d : List (List Int)) : Prop where
 n1 : 1 ≤ n
 n6 : n ≤ 6
 la : a.length = n
 ra : ∀ i : Nat, i < n → (a.getD i []).length = n + 1
 ld : d.length = n + 1
 rd' : ∀ i : Nat, i < n + 1 → (d.getD i []).length = n
 a01 : ∀ i j : Nat, i < n → j < n + 1 → 0 ≤ eA a i j ∧ eA a i j ≤ 1
 d01 : ∀ i j : Nat, i < n + 1 → j < n → 0 ≤ eA d i j ∧ eA d i j ≤ 1
def bordB (n : Nat) (a d : List (List Int)) (i : Nat) : Bool := (eA a i 0 == 1 - (i : Int) % 2) && ((eA a i n == ((n : Int) + i) % 2) && ((eA d 0 i == (i : Int) % 2) && (eA d n i == 1 - ((n : Int) + i) % 2)))
def vertB (a d : List (List Int)) (i j : Nat) : Bool := eA a i j + eA a i (j + 1) + eA d i j + eA d (i + 1) j == 2
def pointsB (n : Nat) (a d : List (List Int)) (i j : Nat) : Bool := (List.range' j (n - j)).all (vertB a d i)
def goodB (n : Nat) (a d : List (List Int)) (i : Nat) : Bool := (List.range' i (n - i)).all fun i => bordB n a d i && pointsB n a d i 0
theorem bit_e (x : Int) : bitI (x % 2 == 0) = 1 - x % 2 := by
 rcases (show x % 2 = 0 ∨ x % 2 = 1 by omega) with h | h <;> rw [h] <;> rfl
theorem bit_o (x : Int) : bitI (x % 2 == 1) = x % 2 := by
 rcases (show x % 2 = 0 ∨ x % 2 = 1 by omega) with h | h <;> rw [h] <;> rfl
theorem rd_el (l : List Int) (i : Nat) (h : i < l.length) : rd l (i : Int) = l[i] := by simp [rd, List.getD_eq_getElem?_getD, h]
theorem tableL_eq {f : Nat → Nat → Int} {r c : Nat} {a : List (List Int)} (h1 : a.length = r) (h2 : ∀ i : Nat, i < r → (a.getD i []).length = c) (h3 : ∀ i j : Nat, i < r → j < c → f i j = eA a i j) : tableL f r c = a := by
 apply List.ext_getElem (by rw [tableL_length, h1])
 intro i hi hi2
 have hir : i < r := by rwa [tableL_length] at hi
 have e1 : (tableL f r c)[i] = rowL f i c := by rw [← getD_at _ [] i hi, tableL_get _ _ _ _ hir]
 have e2 : a[i] = a.getD i [] := (getD_at a [] i hi2).symm
 rw [e1, e2]
 have hl := h2 i hir
 have hf := h3 i
 unfold eA at hf
 generalize a.getD i [] = L at hl hf
 apply List.ext_getElem (by rw [rowL_length, hl])
 intro j hj hj2
 have hjc : j < c := by rwa [rowL_length] at hj
 rw [← rd_el _ j hj, ← rd_el _ j hj2, rd_rowL _ _ _ _ hjc]
 exact hf j hir hjc
theorem eA_table (f : Nat → Nat → Int) {r c i j : Nat} (hi : i < r) (hj : j < c) : eA (tableL f r c) i j = f i j := by
 unfold eA
 rw [tableL_get _ _ _ _ hi, rd_rowL _ _ _ _ hj]
theorem bef_e {n : Nat} {a d : List (List Int)} (h : LpT n a d) {i j : Nat} (hi : i < n) (hj : j < n + 1) : befF a i j = ((i : Int) + j + 1 - eA a i j) % 2 := by
 have := h.a01 i j hi hj
 unfold befF
 rw [Int.tmod_eq_emod_of_nonneg (by unfold eA at this; omega)]
 rfl
theorem fromM_length (n : Nat) (a : List (List Int)) : (fromM n a).length = n := by unfold fromM; rw [tableL_length]; simp
theorem fromM_row {n : Nat} (a : List (List Int)) {i : Nat} (hi : i < n) : (fromM n a).getD i [] = rowL (numF a) i n := by
 unfold fromM
 rw [Int.toNat_natCast, tableL_get _ _ _ _ hi]
theorem fromM_ps {n : Nat} {a d : List (List Int)} (h : LpT n a d) {i : Nat} (hi : i < n) (h0 : eA a i 0 = 1 - (i : Int) % 2) : ∀ j, j ≤ n → ps ((fromM n a).getD i []) j = befF a i j := by
 intro j
 rw [fromM_row a hi]
 induction j with
 | zero =>
  intro _
  rw [ps, bef_e h hi (by omega), h0]
  omega
 | succ j ih =>
  intro hj
  rw [ps, ih (by omega), rd_rowL _ _ _ _ (by omega), numF]
  omega
theorem fromM_col {n : Nat} (a : List (List Int)) {i j : Nat} (hi : i < n) (hj : j < n) : rd (colL (fromM n a) j) (i : Int) = numF a i j := by
 rw [rd_colL _ _ _ (by rw [fromM_length]; exact hi), fromM_row a hi, rd_rowL _ _ _ _ hj]
theorem fromM_pc {n : Nat} {a d : List (List Int)} (h : LpT n a d) {j : Nat} (hj : j < n) (h0 : eA d 0 j = (j : Int) % 2) (hv : ∀ i, i < n → eA a i j + eA a i (j + 1) + eA d i j + eA d (i + 1) j = 2) : ∀ i, i ≤ n → ps (colL (fromM n a) j) i = (eA d i j + i + j) % 2 := by
 intro i
 induction i with
 | zero =>
  intro _
  rw [ps, h0]
  omega
 | succ i ih =>
  intro hi
  have v := hv i (by omega)
  have a0 := h.a01 i j (by omega) (by omega)
  have a1 := h.a01 i (j + 1) (by omega) (by omega)
  have d0 := h.d01 i j (by omega) (by omega)
  have d1 := h.d01 (i + 1) j (by omega) (by omega)
  rw [ps, ih (by omega), fromM_col a (by omega) hj, numF, bef_e h (by omega) (by omega), bef_e h (by omega) (by omega)]
  have c0 : eA a i j = 0 ∨ eA a i j = 1 := by omega
  have c1 : eA a i (j + 1) = 0 ∨ eA a i (j + 1) = 1 := by omega
  have c2 : eA d i j = 0 ∨ eA d i j = 1 := by omega
  have c3 : eA d (i + 1) j = 0 ∨ eA d (i + 1) j = 1 := by omega
  rcases c0 with c0 | c0 <;> rcases c1 with c1 | c1 <;> rcases c2 with c2 | c2 <;> rcases c3 with c3 | c3 <;> rw [c0, c1, c2, c3] at v <;> rw [c0, c1, c2, c3] <;> omega
theorem goodB_iff (n : Nat) (a d : List (List Int)) : goodB n a d 0 = true ↔ ∀ i, i < n → (eA a i 0 = 1 - (i : Int) % 2 ∧ eA a i n = ((n : Int) + i) % 2 ∧ eA d 0 i = (i : Int) % 2 ∧ eA d n i = 1 - ((n : Int) + i) % 2) ∧ ∀ j, j < n → eA a i j + eA a i (j + 1) + eA d i j + eA d (i + 1) j = 2 := by
 unfold goodB
 rw [List.all_eq_true]
 constructor
 ·intro h i hi
  have := h i (by rw [List.mem_range'_1]; omega)
  unfold bordB pointsB at this
  simp only [Bool.and_eq_true, beq_iff_eq, List.all_eq_true] at this
  refine ⟨this.1, fun j hj => ?_⟩
  have := this.2 j (by rw [List.mem_range'_1]; omega)
  unfold vertB at this
  exact beq_iff_eq.1 this
 ·intro h i hi
  rw [List.mem_range'_1] at hi
  have := h i (by omega)
  unfold bordB pointsB
  simp only [Bool.and_eq_true, beq_iff_eq, List.all_eq_true]
  refine ⟨this.1, fun j hj => ?_⟩
  rw [List.mem_range'_1] at hj
  unfold vertB
  exact beq_iff_eq.2 (this.2 j (by omega))
theorem good_sign {n : Nat} {a d : List (List Int)} (h : LpT n a d) (hg : goodB n a d 0 = true) : isSign (fromM n a) = true ∧ acM (fromM n a) = a ∧ dnM (fromM n a) = d := by
 have g := (goodB_iff n a d).1 hg
 have hl := fromM_length n a
 have h1 := h.n1
 have h6 := h.n6
 have hr := fun (i j : Nat) (hi : i < n) (hj : j ≤ n) => fromM_ps h hi (g i hi).1.1 j hj
 have hc := fun (i j : Nat) (hi : i ≤ n) (hj : j < n) => fromM_pc h hj (g j hj).1.2.2.1 (fun i hi => (g i hi).2 j hj) i hi
 refine ⟨isSign_of (by omega) (by omega) (fun i hi => ?_) (fun i hi => ⟨altB_of (fun j hj => ?_) (fun j hj => ?_) ?_, altB_of (fun j hj => ?_) (fun j hj => ?_) ?_⟩), ?_, ?_⟩
 ·rw [hl] at hi ⊢; rw [fromM_row a hi, rowL_length]
 ·rw [hl] at hi; rw [fromM_row a hi] at hj ⊢; rw [rowL_length] at hj
  rw [rd_rowL _ _ _ _ hj, numF, bef_e h hi (by omega), bef_e h hi (by omega)]
  omega
 ·rw [hl] at hi; rw [fromM_row a hi, rowL_length] at hj
  rw [hr i j hi hj, bef_e h hi (by omega)]
  omega
 ·rw [hl] at hi
  rw [show ((fromM n a).getD i []).length = n by rw [fromM_row a hi, rowL_length], hr i n hi (Nat.le_refl _), bef_e h hi (by omega), (g i hi).1.2.1]
  omega
 ·rw [hl] at hi; rw [colL_length, hl] at hj
  rw [fromM_col a hj hi, numF, bef_e h hj (by omega), bef_e h hj (by omega)]
  omega
 ·rw [hl] at hi; rw [colL_length, hl] at hj
  rw [hc j i hj hi]
  omega
 ·rw [hl] at hi; rw [colL_length, hl, hc n i (Nat.le_refl _) hi, (g i hi).1.2.2.2]
  omega
 ·unfold acM
  rw [hl]
  refine tableL_eq h.la h.ra fun i j hi hj => ?_
  unfold acF
  rw [bit_e, hr i j hi (by omega), bef_e h hi hj]
  have := h.a01 i j hi hj
  omega
 ·unfold dnM
  rw [hl]
  refine tableL_eq h.ld h.rd' fun i j hi hj => ?_
  unfold dnF
  rw [bit_o, hc i j (by omega) hj]
  have := h.d01 i j hi hj
  omega
theorem sign_good {n : Nat} {a d : List (List Int)} (h : LpT n a d) (hs : isSign (fromM n a) = true) (ha : acM (fromM n a) = a) (hd : dnM (fromM n a) = d) : goodB n a d 0 = true := by
 obtain ⟨h1, h2, h3, h4⟩ := isSign_facts hs
 have hl := fromM_length n a
 obtain ⟨m, hm⟩ : ∃ m, m = fromM n a := ⟨_, rfl⟩
 rw [← hm] at hs ha hd h1 h2 h3 h4 hl
 have eA' : ∀ i j : Nat, i < n → j < n + 1 → eA a i j = 1 - (ps (m.getD i []) j + i + j) % 2 := fun i j hi hj => by
  rw [← ha, acM, hl, eA_table _ hi hj, acF, bit_e]
 have eD' : ∀ i j : Nat, i < n + 1 → j < n → eA d i j = (ps (colL m j) i + i + j) % 2 := fun i j hi hj => by
  rw [← hd, dnM, hl, eA_table _ hi hj, dnF, bit_o]
 have p1 : ∀ i, i < n → ps (m.getD i []) n = 1 := fun i hi => by
  have := (alt_from (m.getD i []) (h4 i (by omega)).1 _ (Nat.le_refl _)).1
  rw [List.drop_length, altFrom] at this
  rw [← beq_iff_eq.1 this, h3 i (by omega), hl]
 have q1 : ∀ i, i < n → ps (colL m i) n = 1 := fun i hi => by
  have := (alt_from (colL m i) (h4 i (by omega)).2 _ (Nat.le_refl _)).1
  rw [List.drop_length, altFrom] at this
  rw [← beq_iff_eq.1 this, colL_length, hl]
 refine (goodB_iff n a d).2 fun i hi => ⟨⟨?_, ?_, ?_, ?_⟩, fun j hj => ?_⟩
 ·rw [eA' i 0 hi (by omega), ps]; omega
 ·rw [eA' i n hi (by omega), p1 i hi]; omega
 ·rw [eD' 0 i (by omega) hi, ps]; omega
 ·rw [eD' n i (by omega) hi, q1 i hi]; omega
 ·rw [eA' i j hi (by omega), eA' i (j + 1) hi (by omega), eD' i j (by omega) hj, eD' (i + 1) j (by omega) hj, ps, ps, rd_colL m i j (by omega)]
  rw [show ((i + 1 : Nat) : Int) = (i : Int) + 1 by omega, show ((j + 1 : Nat) : Int) = (j : Int) + 1 by omega]
  have a0 := alt_ps (h4 i (by omega)).1 (j := j) (by rw [h3 i (by omega)]; omega)
  have b0 := alt_ps (h4 j (by omega)).2 (j := i) (by rw [colL_length]; omega)
  have a1 := alt_ps (h4 i (by omega)).1 (j := j + 1) (by rw [h3 i (by omega)]; omega)
  have b1 := alt_ps (h4 j (by omega)).2 (j := i + 1) (by rw [colL_length]; omega)
  rw [ps] at a1 b1
  rw [rd_colL m i j (by omega)] at b1
  have x0 := alt_rd (h4 i (by omega)).1 (j := j) (by rw [h3 i (by omega)]; omega)
  generalize ps (m.getD i []) j = p at *
  generalize ps (colL m j) i = q at *
  generalize rd (m.getD i []) j = x at *
  have cp : p = 0 ∨ p = 1 := by omega
  have cq : q = 0 ∨ q = 1 := by omega
  have cx : x = -1 ∨ x = 0 ∨ x = 1 := by omega
  obtain ⟨t, ht⟩ : ∃ t : Int, (i : Int) + j = 2 * t ∨ (i : Int) + j = 2 * t + 1 := ⟨((i : Int) + j) / 2, by omega⟩
  rcases cp with rfl | rfl <;> rcases cq with rfl | rfl <;> rcases cx with rfl | rfl | rfl <;> rcases ht with ht | ht <;> omega
/-- The shape of loops as the program asks for it. -/
def shapeP (n : Int) (a d : List (List Int)) : Bool := inB n 1 6 && (tabB a n (n + 1) && tabB d (n + 1) n)
theorem lpT_of {n : Int} {a d : List (List Int)} (h : shapeP n a d = true) : ∃ k : Nat, n = k ∧ LpT k a d := by
 unfold shapeP at h
 simp only [Bool.and_eq_true] at h
 obtain ⟨h1, h2, h3⟩ := h
 obtain ⟨n1, n6⟩ := (inB_iff _ _ _).1 h1
 obtain ⟨k, rfl⟩ := Int.eq_ofNat_of_zero_le (show 0 ≤ n by omega)
 obtain ⟨la, ra⟩ := tabB_at h2
 obtain ⟨ld, rd'⟩ := tabB_at h3
 refine ⟨k, rfl, by omega, by omega, by omega, fun i hi => ?_, by omega, fun i hi => ?_, fun i j hi hj => ?_, fun i j hi hj => ?_⟩
 ·have := (ra i (by omega)).1; omega
 ·have := (rd' i (by omega)).1; omega
 ·have := (ra i (by omega)).1
  exact (ra i (by omega)).2 j (by omega)
 ·have := (rd' i (by omega)).1
  exact (rd' i (by omega)).2 j (by omega)
/-- What the program's FromLoops gives, by the edges. -/
theorem fromR_eq (n : Int) (a d : List (List Int)) : fromR n a d = if (shapeP n a d && goodB n.toNat a d 0) = true then (fromM n a, true) else ([], false) := by
 unfold fromR
 cases hs : shapeP n a d with
 | false =>
  unfold shapeP at hs
  rw [hs]; rfl
 | true =>
  obtain ⟨k, rfl, hL⟩ := lpT_of hs
  unfold shapeP at hs
  rw [hs, if_pos rfl, Bool.true_and, Int.toNat_natCast]
  by_cases hg : goodB k a d 0 = true
  ·obtain ⟨g1, g2, g3⟩ := good_sign hL hg
   rw [if_pos hg, if_pos g1, if_pos ⟨g2, g3⟩]
  ·rw [if_neg hg]
   by_cases g1 : isSign (fromM k a) = true
   ·rw [if_pos g1, if_neg (fun g => hg (sign_good hL g1 g.1 g.2))]
   ·rw [if_neg g1]
end Go.Proofs.Ytbihfdadnkmckaa

namespace Go.Proofs.Ytbihfdadnkmckaa.P
open Go.RowKit Go.Proofs.YtbihfdadnkmckaaW.PrintWords Go.Proofs.YtbihfdadnkmckaaW.PrintLast Go.Proofs.YtbihfdadnkmckaaW.PrintMore
attribute [local go_sem] max2_int min2_int max_two min_two max_three min_three max_four min_four   -- for this text's walks alone
set_option linter.unusedVariables false
set_option linter.unusedSimpArgs false

def spec_l1All.l0 : Nat → Int → Int → List Int → Int → Int → Option (Bool)
 | 0, _, _, _, _, _ => none
 | k + 1, x1, x2, x9, x10, x11 => if x11 < x10 then (if 0 ≤ x11 then (if x11 < (x9.length : Int) then ((spec_l1In.f (rd x9 x11) x1 x2).bind fun t229 => (if t229 = true then (spec_l1All.l0 k x1 x2 x9 x10 (wrap64 (x11 + 1))) else (some false))) else (none)) else (none)) else (some true)
def spec_l1All.f (k : Nat) (l0 : List Int) (a1 : Int) (a2 : Int) : Option (Bool) := spec_l1All.l0 k a1 a2 l0 (l0.length : Int) 0
set_option maxHeartbeats 8000000 in
set_option maxRecDepth 100000 in
theorem spec_l1All.calls (k : Nat) (A0 : Option Addr) (c0 : Nat) (l0 : List Int) (a1 : Int) (a2 : Int) (r : Bool) (w : World) (hr0 : Kd.C (Kd.int .i64) w A0 l0.length l0) (hc0 : l0.length ≤ c0) (h : spec_l1All.f k l0 a1 a2 = some r) :
  Calls Try.prog 59 #[.slice A0 l0.length c0, .int .i64 a1, .int .i64 a2] w fun e w' => e = .returned (.bool r) ∧ Drawn0 w w' := by
 have HR0 := Aside0.mk hr0
 have HC0 := Aside0.mk hc0
 clear hr0 hc0
 have H : (spec_l1All.l0 k a1 a2 l0 (l0.length : Int) 0) = some r := h
 clear h
 have H' := Aside0.mk H
 clear H
 go_enter Try.func59, Try.ntmps59
 go_wp2
 go_loopg [11] k (fun kq v11 w' => ∃ (x11_1 : Int), v11 = .int .i64 x11_1 ∧ Aside0 (spec_l1All.l0 kq a1 a2 l0 (l0.length : Int) x11_1 = some r) ∧ Aside0 (kq ≤ k) ∧ Drawn0 w w')
 case atStart => exact ⟨(0), (by first | rfl | (simp; done) | (simp [*]; done)), H', ⟨Nat.le_refl _⟩, by repeat (first | exact Drawn0.refl _ | apply Drawn0.step)⟩
 case round =>
  clear H'
  try clear p2
  obtain ⟨x11_1, rfl, HA, HK1, ⟨m1, rfl⟩⟩ := hrel
  cases gk with
  | zero => exact absurd HA.out (by simp [spec_l1All.l0])
  | succ k1 =>
   have H := HA.out
   clear HA
   simp only [spec_l1All.l0] at H
   by_cases c4 : x11_1 < (l0.length : Int)
   ·rw [if_pos c4] at H
    have c4b0 : decide (x11_1 < (l0.length : Int)) = true := decide_eq_true c4
    clear c4
    by_cases c5 : 0 ≤ x11_1
    ·rw [if_pos c5] at H
     have c5b0 : decide (0 ≤ x11_1) = true := decide_eq_true c5
     clear c5
     by_cases c6 : x11_1 < (l0.length : Int)
     ·rw [if_pos c6] at H
      have c6b0 : decide (x11_1 < (l0.length : Int)) = true := decide_eq_true c6
      clear c6
      replace H := Option.bind_eq_some_iff.mp H
      obtain ⟨t229, A70, H⟩ := H
      replace H : (if t229 = true then (spec_l1All.l0 k1 a1 a2 l0 (l0.length : Int) (wrap64 (x11_1 + 1))) else (some false)) = some r := H
      have A7 := Aside0.mk A70
      clear A70
      by_cases c8 : t229 = true
      ·subst c8
       have H1 : (spec_l1All.l0 k1 a1 a2 l0 (l0.length : Int) (wrap64 (x11_1 + 1))) = some r := by rw [if_pos rfl] at H; exact H
       clear H
       have H := H1
       clear H1
       have H' := Aside0.mk H
       clear H
       have p228 : 0 ≤ (x11_1 : Int) := of_decide_eq_true (by first | (with_reducible assumption) | assumption)
       have q228 : x11_1 < (l0.length : Int) := of_decide_eq_true (by first | (with_reducible assumption) | assumption)
       obtain ⟨ad228, e228, hx228_0⟩ := Kd.at_int HR0.out x11_1 p228 q228
       cases e228
       replace p228 := eq_true p228
       replace q228 := eq_true q228
       go_wp2_with (first | ((with_reducible refine gate_callee (f := 57) rfl ?_); refine goesL_ (some 18) rfl rfl Try.func57 (by kernel_rfl) rfl #[.int .i64 (rd l0 x11_1), .int .i64 a1, .int .i64 a2] rfl (by (try simp only [List.map_toArray, List.map_cons, List.map_nil]); first | done | rfl | (simp only [List.length_drop, List.length_take]; rfl)) ?_; (with_reducible refine (spec_l1In.calls (rd l0 x11_1) a1 a2 true _ A7.out).mono ?_); rintro e w' ⟨rfl, ⟨nd, rfl⟩⟩; refine ⟨_, rfl, ?_⟩))
       go_roundg k1
       case measure => have := HK1.out; omega
       case rel => exact ⟨(wrap64 (x11_1 + 1)), (by first | rfl | (simp; done) | (simp [*]; done)), H', ⟨by have := HK1.out; omega⟩, by repeat (first | exact Drawn0.refl _ | apply Drawn0.step)⟩
      ·replace c8 := Bool.eq_false_iff.mpr c8
       subst c8
       have H1 : (some false) = some r := by rw [if_neg (show ¬ (false = true) by decide)] at H; exact H
       clear H
       have H := H1
       clear H1
       obtain rfl := Option.some.inj H
       have p228 : 0 ≤ (x11_1 : Int) := of_decide_eq_true (by first | (with_reducible assumption) | assumption)
       have q228 : x11_1 < (l0.length : Int) := of_decide_eq_true (by first | (with_reducible assumption) | assumption)
       obtain ⟨ad228, e228, hx228_0⟩ := Kd.at_int HR0.out x11_1 p228 q228
       cases e228
       replace p228 := eq_true p228
       replace q228 := eq_true q228
       go_wp2_with (first | ((with_reducible refine gate_callee (f := 57) rfl ?_); refine goesL_ (some 18) rfl rfl Try.func57 (by kernel_rfl) rfl #[.int .i64 (rd l0 x11_1), .int .i64 a1, .int .i64 a2] rfl (by (try simp only [List.map_toArray, List.map_cons, List.map_nil]); first | done | rfl | (simp only [List.length_drop, List.length_take]; rfl)) ?_; (with_reducible refine (spec_l1In.calls (rd l0 x11_1) a1 a2 false _ A7.out).mono ?_); rintro e w' ⟨rfl, ⟨nd, rfl⟩⟩; refine ⟨_, rfl, ?_⟩))
       go_ret
       exact ⟨by first | rfl | (simp; done) | (simp [*]; done), by repeat (first | exact Drawn0.refl _ | apply Drawn0.step)⟩
     ·rw [if_neg c6] at H
      exact absurd H (by simp)
    ·rw [if_neg c5] at H
     exact absurd H (by simp)
   ·rw [if_neg c4] at H
    have c4b0 : decide (x11_1 < (l0.length : Int)) = false := decide_eq_false c4
    clear c4
    obtain rfl := Option.some.inj H
    go_wp2
    go_ret
    exact ⟨by first | rfl | (simp; done) | (simp [*]; done), by repeat (first | exact Drawn0.refl _ | apply Drawn0.step)⟩

end Go.Proofs.Ytbihfdadnkmckaa.P

namespace Go.Proofs.Ytbihfdadnkmckaa.L
open Go.RowKit Go.Proofs.Ytbihfdadnkmckaa Go.Proofs.Ytbihfdadnkmckaa.P Go.Proofs.YtbihfdadnkmckaaW.PrintWords Go.Proofs.YtbihfdadnkmckaaW.PrintLast Go.Proofs.YtbihfdadnkmckaaW.PrintMore
set_option linter.unusedVariables false

theorem l1All_l0 (l : List Int) (a b : Int) (hl : l.length ≤ 35184372088832) : ∀ (d i : Nat), i + d = l.length → Ev (fun k => spec_l1All.l0 k a b l l.length i) ((l.drop i).all fun x => inB x a b) := by
 intro d
 induction d with
 | zero =>
  intro i hi
  refine Ev.step (fun k => by rw [spec_l1All.l0]) ?_
  rw [List.drop_eq_nil_of_le (by omega)]
  exact Ev.ite_neg (by omega) (Ev.now _)
 | succ d ih =>
  intro i hi
  refine Ev.step (fun k => by rw [spec_l1All.l0]) ?_
  refine Ev.ite_pos (by omega) (Ev.ite_pos (by omega) (Ev.ite_pos (by omega) ?_))
  rw [l1In_eq, rd_at l i (by omega), List.drop_eq_getElem_cons (by omega), List.all_cons]
  simp only [Option.bind_some]
  cases h : inB l[i] a b with
  | true =>
   refine Ev.ite_pos rfl ?_
   rw [wrapS i (by omega), Bool.true_and]
   exact ih (i + 1) (by omega)
  | false => exact Ev.ite_neg (by simp) (Ev.now _)
theorem l1All_ev (l : List Int) (a b : Int) (hl : l.length ≤ 35184372088832) : Ev (fun k => spec_l1All.f k l a b) (l.all fun x => inB x a b) := l1All_l0 l a b hl l.length 0 (by omega)
end Go.Proofs.Ytbihfdadnkmckaa.L
