/- Texts of one chain, in build order. -/
import Derived.Test.YthbkjaieenochaaYCountClosed16
namespace Go.Proofs.Ythbkjaieenochaa.L
open Go.RowKit Go.Proofs.Ythbkjaieenochaa Go.Proofs.Ythbkjaieenochaa.P Go.Proofs.Ythbkjaieenochaa.LN Go.Proofs.YthbkjaieenochaaW.PrintWords Go.Proofs.YthbkjaieenochaaW.PrintLast Go.Proofs.YthbkjaieenochaaW.PrintMore
set_option linter.unusedVariables false
set_option linter.unusedSimpArgs false

def mk1 (T : List (List Int)) (p : List Int) : List (List Int) := putT T (rd p 0).toNat (rd p 1).toNat 1
def mkL (T : List (List Int)) (pts : List (List Int)) : List (List Int) := pts.foldl mk1 T
def zerosT (n : Nat) : List (List Int) := List.replicate n (List.replicate n 0)
/-- A square of zeros and ones. -/
structure SqB (n : Nat) (T : List (List Int)) : Prop where
 len : T.length = n
 row : ∀ i, i < n → (T.getD i []).length = n
 bit : ∀ i j : Nat, i < n → j < n → rd (T.getD i []) j = 0 ∨ rd (T.getD i []) j = 1
def InP (n : Nat) (p : List Int) : Prop := ∃ i j : Nat, p = [(i : Int), (j : Int)] ∧ i < n ∧ j < n
theorem putT_at (T : List (List Int)) (i j : Nat) (v : Int) (k : Nat) (hi : i < T.length) : (putT T i j v).getD k [] = if k = i then (T.getD i []).set j v else T.getD k [] := by
 unfold putT
 by_cases h : k = i
 ·subst h
  rw [if_pos rfl, List.getD_eq_getElem?_getD, List.getElem?_set_self hi]; rfl
 ·rw [if_neg h, List.getD_eq_getElem?_getD, List.getElem?_set_ne (fun e => h e.symm), ← List.getD_eq_getElem?_getD]
theorem rd_set (l : List Int) (j k : Nat) (v : Int) (hj : j < l.length) : rd (l.set j v) k = if k = j then v else rd l k := by
 unfold rd
 rw [Int.toNat_natCast, List.getD_eq_getElem?_getD, List.getD_eq_getElem?_getD]
 by_cases h : k = j
 ·subst h; rw [if_pos rfl, List.getElem?_set_self hj]; rfl
 ·rw [if_neg h, List.getElem?_set_ne (fun e => h e.symm)]
theorem mk1_ok {n : Nat} {T : List (List Int)} (h : SqB n T) {p : List Int} (hp : InP n p) : SqB n (mk1 T p) := by
 obtain ⟨i, j, rfl, hi, hj⟩ := hp
 have e0 : (rd [(i : Int), (j : Int)] 0).toNat = i := rfl
 have e1 : (rd [(i : Int), (j : Int)] 1).toNat = j := rfl
 unfold mk1
 rw [e0, e1]
 refine ⟨by rw [putT_length]; exact h.len, fun k hk => by rw [putT_row]; exact h.row k hk, fun k q hk hq => ?_⟩
 rw [putT_at T i j 1 k (by rw [h.len]; exact hi)]
 by_cases he : k = i
 ·subst he
  rw [if_pos rfl, rd_set _ _ _ _ (by rw [h.row k hk]; exact hj)]
  split
  ·exact .inr rfl
  ·exact h.bit k q hk hq
 ·rw [if_neg he]; exact h.bit k q hk hq
theorem mkL_ok {n : Nat} : ∀ (pts : List (List Int)) {T : List (List Int)}, SqB n T → (∀ p ∈ pts, InP n p) → SqB n (mkL T pts)
 | [], T, h, _ => h
 | p :: r, T, h, hp => mkL_ok r (mk1_ok h (hp p (List.mem_cons_self ..))) (fun q hq => hp q (List.mem_cons_of_mem _ hq))
theorem mkL_take (T : List (List Int)) (pts : List (List Int)) (k : Nat) (hk : k < pts.length) : mkL T (pts.take (k + 1)) = mk1 (mkL T (pts.take k)) (pts.getD k []) := by
 unfold mkL
 rw [List.take_succ_eq_append_getElem hk, List.foldl_append, List.foldl_cons, List.foldl_nil, List.getD_eq_getElem?_getD, List.getElem?_eq_getElem hk]; rfl
theorem zeros_ok (n : Nat) : SqB n (zerosT n) := by
 refine ⟨by simp [zerosT], fun i hi => ?_, fun i j hi hj => .inl ?_⟩
 ·unfold zerosT; rw [List.getD_eq_getElem?_getD, List.getElem?_replicate, if_pos hi]; simp
 ·unfold zerosT rd; rw [List.getD_eq_getElem?_getD (i := i), List.getElem?_replicate, if_pos hi, Int.toNat_natCast]
  show (List.replicate n (0 : Int)).getD j 0 = 0
  rw [List.getD_eq_getElem?_getD, List.getElem?_replicate, if_pos hj]; rfl
/-- The points of a line lie in the square. -/
theorem way_in {n : Nat} {a d : Int → Int → Int} (hg : LN.Good a d (n : Int)) {f : St} {k : Nat} {x : St} {r : List (List Int) × Int × Bool} (hx : okS a d n x) (h : wy a d n f k x = some r) : r.1.length ≤ k ∧ ∀ p ∈ r.1, InP n p := by
 obtain ⟨h1, h2, _⟩ := wy_what hg f k x r hx h
 refine ⟨h1, fun p hp => ?_⟩
 obtain ⟨i, j, rfl, hi⟩ := h2 p hp
 obtain ⟨g1, g2, g3, g4⟩ := ing_iff.1 hi
 exact ⟨i.toNat, j.toNat, by rw [Int.toNat_of_nonneg g1, Int.toNat_of_nonneg g3], by omega, by omega⟩
/-- After k ends. -/
def endT (m : List (List Int)) (k : Nat) : List (List Int) := ((endsL m.length).take k).foldl (fun T e => mkL T (lineOf m e).1) (zerosT m.length)
theorem endT_succ (m : List (List Int)) (k : Nat) (hk : k < (endsL m.length).length) : endT m (k + 1) = mkL (endT m k) (lineOf m ((endsL m.length).getD k [])).1 := by
 unfold endT
 rw [List.take_succ_eq_append_getElem hk, List.foldl_append, List.foldl_cons, List.foldl_nil, List.getD_eq_getElem?_getD (i := k), List.getElem?_eq_getElem hk]; rfl
theorem line_in {m : List (List Int)} (hs : isSign m = true) {e : List Int} (he : endsP m.length e = true) : (lineOf m e).1.length ≤ 144 ∧ ∀ p ∈ (lineOf m e).1, InP m.length p :=
 way_in (lp_of hs).good (end_ok hs he).2 (lineOf_ok hs he)
theorem endT_ok {m : List (List Int)} (hs : isSign m = true) : ∀ k, k ≤ (endsL m.length).length → SqB m.length (endT m k)
 | 0, _ => zeros_ok _
 | k + 1, hk => by
  rw [endT_succ m k (by omega)]
  exact mkL_ok _ (endT_ok hs k (by omega)) (line_in hs (ends_at (ends_all (isSign_facts hs).1 (isSign_facts hs).2.1) k (by omega))).2
/-- The first side of a point that is drawn. -/
def sideF (m : List (List Int)) (i j : Nat) : Nat := if drw (r2 (acM m)) (r2 (dnM m)) i j 0 = true then 0 else if drw (r2 (acM m)) (r2 (dnM m)) i j 1 = true then 1 else if drw (r2 (acM m)) (r2 (dnM m)) i j 2 = true then 2 else 3
theorem in_sq {n i j : Nat} (hi : i < n) (hj : j < n) : ing (n : Int) (i : Int) (j : Int) = true := ing_iff.2 ⟨by omega, by omega, by omega, by omega⟩
theorem sideF_ok {m : List (List Int)} (hs : isSign m = true) {i j : Nat} (hi : i < m.length) (hj : j < m.length) : sideF m i j ≤ 3 ∧ drw (r2 (acM m)) (r2 (dnM m)) i j (sideF m i j) = true ∧ ∀ s : Nat, s < sideF m i j → drw (r2 (acM m)) (r2 (dnM m)) i j s = false := by
 have hg := (lp_of hs).good i j (in_sq hi hj)
 unfold sideF
 cases e0 : drw (r2 (acM m)) (r2 (dnM m)) i j 0
 ·cases e1 : drw (r2 (acM m)) (r2 (dnM m)) i j 1
  ·cases e2 : drw (r2 (acM m)) (r2 (dnM m)) i j 2
   ·cases e3 : drw (r2 (acM m)) (r2 (dnM m)) i j 3
    ·rw [e0, e1, e2, e3] at hg; simp [b2] at hg
    ·refine ⟨by simp, by simpa using e3, fun s hs => ?_⟩
     have hs : s < 3 := by simpa using hs
     have : s = 0 ∨ s = 1 ∨ s = 2 := by omega
     rcases this with rfl | rfl | rfl
     ·exact e0
     ·exact e1
     ·exact e2
   ·refine ⟨by simp, by simpa using e2, fun s hs => ?_⟩
    have hs : s < 2 := by simpa using hs
    have : s = 0 ∨ s = 1 := by omega
    rcases this with rfl | rfl
    ·exact e0
    ·exact e1
  ·refine ⟨by simp, by simpa using e1, fun s hs => ?_⟩
   have hs : s < 1 := by simpa using hs
   obtain rfl : s = 0 := by omega
   exact e0
 ·exact ⟨by simp, by simpa using e0, fun s hs => by simp at hs⟩
theorem cell_ok {m : List (List Int)} (hs : isSign m = true) {i j : Nat} (hi : i < m.length) (hj : j < m.length) : okS (r2 (acM m)) (r2 (dnM m)) m.length ((i : Int), (j : Int), ((sideF m i j : Nat) : Int)) := by
 obtain ⟨h1, h2, _⟩ := sideF_ok hs hi hj
 exact ⟨in_sq hi hj, by show (0 : Int) ≤ ((sideF m i j : Nat) : Int); omega, by show ((sideF m i j : Nat) : Int) ≤ 3; omega, h2⟩
/-- The closed line through a point. -/
def wayAt (m : List (List Int)) (i j : Nat) : List (List Int) × Int × Bool := (wy (r2 (acM m)) (r2 (dnM m)) m.length ((i : Int), (j : Int), ((sideF m i j : Nat) : Int)) 144 ((i : Int), (j : Int), ((sideF m i j : Nat) : Int))).getD ([], 0, false)
theorem wayAt_ok {m : List (List Int)} (hs : isSign m = true) {i j : Nat} (hi : i < m.length) (hj : j < m.length) : wy (r2 (acM m)) (r2 (dnM m)) m.length ((i : Int), (j : Int), ((sideF m i j : Nat) : Int)) 144 ((i : Int), (j : Int), ((sideF m i j : Nat) : Int)) = some (wayAt m i j) := by
 obtain ⟨r, hr⟩ := wy_some (isSign_facts hs).2.1 (lp_of hs).good _ (cell_ok hs hi hj)
 unfold wayAt
 rw [hr]; rfl
theorem wayAt_in {m : List (List Int)} (hs : isSign m = true) {i j : Nat} (hi : i < m.length) (hj : j < m.length) : (wayAt m i j).1.length ≤ 144 ∧ ∀ p ∈ (wayAt m i j).1, InP m.length p :=
 way_in (lp_of hs).good (cell_ok hs hi hj) (wayAt_ok hs hi hj)
/-- One point: its line is counted and marked, if it is not marked. -/
def ccS (m : List (List Int)) (st : List (List Int) × Nat) (i j : Nat) : List (List Int) × Nat := if rd (st.1.getD i []) j = 1 then st else (mkL st.1 (wayAt m i j).1, st.2 + 1)
def ccR (m : List (List Int)) (st : List (List Int) × Nat) (i : Nat) : Nat → List (List Int) × Nat
 | 0 => st
 | j + 1 => ccS m (ccR m st i j) i j
def ccT (m : List (List Int)) (st : List (List Int) × Nat) : Nat → List (List Int) × Nat
 | 0 => st
 | i + 1 => ccR m (ccT m st i) i m.length
theorem ccS_ok {m : List (List Int)} (hs : isSign m = true) {st : List (List Int) × Nat} {i j : Nat} (hi : i < m.length) (hj : j < m.length) (h : SqB m.length st.1) : SqB m.length (ccS m st i j).1 ∧ (ccS m st i j).2 ≤ st.2 + 1 := by
 unfold ccS
 split
 ·exact ⟨h, by omega⟩
 ·exact ⟨mkL_ok _ h (wayAt_in hs hi hj).2, Nat.le_refl _⟩
theorem ccR_ok {m : List (List Int)} (hs : isSign m = true) {st : List (List Int) × Nat} {i : Nat} (hi : i < m.length) (h : SqB m.length st.1) : ∀ k, k ≤ m.length → SqB m.length (ccR m st i k).1 ∧ (ccR m st i k).2 ≤ st.2 + k
 | 0, _ => ⟨h, Nat.le_refl _⟩
 | k + 1, hk => by
  obtain ⟨h1, h2⟩ := ccR_ok hs hi h k (by omega)
  obtain ⟨h3, h4⟩ := ccS_ok hs hi (show k < m.length by omega) h1
  exact ⟨h3, by rw [ccR]; omega⟩
theorem ccT_ok {m : List (List Int)} (hs : isSign m = true) {st : List (List Int) × Nat} (h : SqB m.length st.1) : ∀ k, k ≤ m.length → SqB m.length (ccT m st k).1 ∧ (ccT m st k).2 ≤ st.2 + k * 6
 | 0, _ => ⟨h, Nat.le_refl _⟩
 | k + 1, hk => by
  obtain ⟨h1, h2⟩ := ccT_ok hs h k (by omega)
  obtain ⟨h3, h4⟩ := ccR_ok hs (show k < m.length by omega) h1 m.length (Nat.le_refl _)
  have := (isSign_facts hs).2.1
  exact ⟨h3, by rw [ccT]; omega⟩
def closedN (m : List (List Int)) : Nat := (ccT m (endT m (endsL m.length).length, 0) m.length).2
theorem sgZero_l0 (n : Nat) (hn : n ≤ 1000) : ∀ (d i : Nat), i + d = n → Ev (fun k => spec_sgZero.l0 k n (List.replicate i (List.replicate n 0)) i) (zerosT n) := by
 intro d
 induction d with
 | zero =>
  intro i hi
  refine Ev.step (fun k => by rw [spec_sgZero.l0]) ?_
  obtain rfl : i = n := by omega
  exact Ev.ite_neg (by omega) (Ev.now _)
 | succ d ih =>
  intro i hi
  refine Ev.step (fun k => by rw [spec_sgZero.l0]) ?_
  have := ih (i + 1) (by omega)
  rw [List.replicate_succ'] at this
  rw [wrapS i (by omega)]
  exact Ev.ite_pos (by omega) (Ev.ite_pos (by omega) (Ev.ite_pos (by omega) (Ev.ite_pos (by rw [List.length_replicate]; omega) this)))
theorem sgZero_ev (n : Nat) (hn : n ≤ 1000) : Ev (fun k => spec_sgZero.f k n) (zerosT n) := sgZero_l0 n hn n 0 (by omega)
end Go.Proofs.Ythbkjaieenochaa.L
