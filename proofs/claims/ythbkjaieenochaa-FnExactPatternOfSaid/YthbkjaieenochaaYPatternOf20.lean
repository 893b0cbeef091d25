/- The program's PatternOf answers as the reference's PatternOf, for every table; the table stays as it was, and what comes back is the call's own (the walk of the law FnExactPatternOf; no condition). -/
import Derived.Test.YthbkjaieenochaaYPatternOf19
namespace Go.Proofs.Ythbkjaieenochaa.L
set_option linter.unusedVariables false
open Go.RowKit Go.Proofs.Ythbkjaieenochaa Go.Proofs.Ythbkjaieenochaa.P Go.Proofs.Ythbkjaieenochaa.LN Go.Proofs.YthbkjaieenochaaW.PrintWords Go.Proofs.YthbkjaieenochaaW.PrintLast Go.Proofs.YthbkjaieenochaaW.PrintMore
set_option maxRecDepth 100000

/-- A line that begins at the border does not come back. -/
theorem wy_open {a d : Int → Int → Int} {n : Int} (hg : LN.Good a d n) (f : St) (hf : ¬ ing n (mi f.1 f.2.2) (mj f.2.1 f.2.2) = true) : ∀ (k : Nat) (x : St) (r : List (List Int) × Int × Bool), okS a d n x → wy a d n f k x = some r → r.2.2 = false := by
 intro k
 induction k with
 | zero => intro x r _ h; simp [wy] at h
 | succ k ih =>
  intro x r hx h
  rw [wy] at h
  by_cases hi : ing n (LN.step a d x).1 (LN.step a d x).2.1 = true
  ·rw [if_pos hi] at h
   obtain ⟨s1, s2⟩ := step_ok hg hx hi
   by_cases he : LN.step a d x = f
   ·exfalso
    rw [he] at s2
    have h1 : (bck a d f).1 = mi f.1 f.2.2 := rfl
    have h2 : (bck a d f).2.1 = mj f.2.1 f.2.2 := rfl
    rw [s2] at h1 h2
    exact hf (by rw [← h1, ← h2]; exact hx.1)
   ·rw [if_neg he] at h
    obtain ⟨q, hq, rfl⟩ := Option.map_eq_some_iff.1 h
    exact ih _ q s1 hq
  ·rw [if_neg hi] at h
   obtain rfl := Option.some.inj h
   rfl
/-- An end's edge leads out of the square. -/
theorem endsP_out {n : Nat} {e : List Int} (he : endsP n e = true) : ¬ ing n (mi (rd e 1) (rd e 0)) (mj (rd e 2) (rd e 0)) = true := by
 unfold endsP at he
 split at he
 case h_2 => cases he
 rename_i s i j
 show ¬ ing n (mi i s) (mj j s) = true
 rw [Bool.and_eq_true] at he
 obtain ⟨hi, he⟩ := he
 obtain ⟨g1, g2, g3, g4⟩ := ing_iff.1 hi
 simp only [Bool.or_eq_true, Bool.and_eq_true, beq_iff_eq] at he
 rw [ing_iff]
 rcases he with ⟨rfl, hb, hc⟩ | ⟨rfl, hb, hc⟩ | ⟨rfl, hb, hc⟩ | ⟨rfl, hb, hc⟩ <;> simp only [mi, mj] <;> simp <;> omega
/-- A border edge that is drawn is an end. -/
theorem endsP_of {m : List (List Int)} (hs : isSign m = true) {i j s : Int} (hi : ing m.length i j = true) (h0 : 0 ≤ s) (h1 : s ≤ 3) (hd : drw (r2 (acM m)) (r2 (dnM m)) i j s = true) (ho : ing m.length (mi i s) (mj j s) = false) : endsP m.length [s, i, j] = true := by
 obtain ⟨k1, k2, k3, k4⟩ := isSign_facts hs
 obtain ⟨g1, g2, g3, g4⟩ := ing_iff.1 hi
 obtain ⟨i, rfl⟩ := Int.eq_ofNat_of_zero_le g1
 obtain ⟨j, rfl⟩ := Int.eq_ofNat_of_zero_le g3
 have hin : i < m.length := by omega
 have hjn : j < m.length := by omega
 have ho2 : ¬ ing m.length (mi i s) (mj j s) = true := by rw [ho]; decide
 rw [ing_iff] at ho2
 unfold endsP
 simp only [hi, Bool.true_and, Bool.or_eq_true, Bool.and_eq_true, beq_iff_eq]
 rcases four h0 h1 with rfl | rfl | rfl | rfl
 ·simp only [mi, mj] at ho2
  obtain rfl : i = 0 := by simp at ho2; omega
  rw [drw_0 m hin hjn, beq_iff_eq] at hd
  simp only [ps] at hd
  exact .inl ⟨rfl, rfl, by omega⟩
 ·simp only [mi, mj] at ho2
  have hj1 : j + 1 = m.length := by simp at ho2; omega
  rw [drw_1 m hin hjn, beq_iff_eq] at hd
  have := ps_all (k4 i hin).1
  rw [k3 i hin] at this
  rw [hj1, this] at hd
  exact .inr (.inl ⟨rfl, by omega, by omega⟩)
 ·simp only [mi, mj] at ho2
  have hi1 : i + 1 = m.length := by simp at ho2; omega
  rw [drw_2 m hin hjn, beq_iff_eq] at hd
  have := ps_all (k4 j hjn).2
  rw [colL_length] at this
  rw [hi1, this] at hd
  exact .inr (.inr (.inl ⟨rfl, by omega, by omega⟩))
 ·simp only [mi, mj] at ho2
  obtain rfl : j = 0 := by simp at ho2; omega
  rw [drw_3 m hin hjn, beq_iff_eq] at hd
  simp only [ps] at hd
  exact .inr (.inr (.inr ⟨rfl, rfl, by omega⟩))
/-- Is an end the one at side s of the point l? -/
def ixHit (f : List Int) (s : Int) (l : List Int) : Bool := rd f 0 == s && (rd f 1 == rd l 0 && rd f 2 == rd l 1)
/-- The indexes of the ends at side s of the point l, of the first k ends. -/
def ixTo (E : List (List Int)) (s : Int) (l : List Int) : Nat → List Int
 | 0 => []
 | k + 1 => ixTo E s l k ++ (if ixHit (E.getD k []) s l = true then [(k : Int)] else [])
theorem ixTo_len (E : List (List Int)) (s : Int) (l : List Int) : ∀ k, (ixTo E s l k).length ≤ k
 | 0 => Nat.le_refl _
 | k + 1 => by
  have := ixTo_len E s l k
  rw [ixTo, List.length_append]
  split <;> simp <;> omega
/-- Each end has its index alone. -/
def oneB (n : Nat) : Bool := (List.range 4).all fun s => (List.range n).all fun i => (List.range n).all fun j => !(endsP n [(s : Int), (i : Int), (j : Int)]) || (ixTo (endsL n) s [(i : Int), (j : Int)] (endsL n).length == [endIx (endsL n) [(s : Int), (i : Int), (j : Int)]])
theorem one_all {n : Nat} (h0 : 1 ≤ n) (h1 : n ≤ 6) : oneB n = true := by
 have e : n = 1 ∨ n = 2 ∨ n = 3 ∨ n = 4 ∨ n = 5 ∨ n = 6 := by omega
 rcases e with rfl | rfl | rfl | rfl | rfl | rfl <;> decide +kernel
theorem one_at {n : Nat} (h0 : 1 ≤ n) (h1 : n ≤ 6) {s i j : Int} (s0 : 0 ≤ s) (s1 : s ≤ 3) (hi : ing n i j = true) (he : endsP n [s, i, j] = true) : ixTo (endsL n) s [i, j] (endsL n).length = [endIx (endsL n) [s, i, j]] := by
 obtain ⟨g1, g2, g3, g4⟩ := ing_iff.1 hi
 obtain ⟨i, rfl⟩ := Int.eq_ofNat_of_zero_le g1
 obtain ⟨j, rfl⟩ := Int.eq_ofNat_of_zero_le g3
 obtain ⟨s, rfl⟩ := Int.eq_ofNat_of_zero_le s0
 have := List.all_eq_true.1 (List.all_eq_true.1 (List.all_eq_true.1 (one_all h0 h1) s (List.mem_range.2 (by omega))) i (List.mem_range.2 (by omega))) j (List.mem_range.2 (by omega))
 rw [he] at this
 simpa using this
/-- The end to which the line from an end leads. -/
def otherOf (m : List (List Int)) (e : List Int) : Int := endIx (endsL m.length) ((lineOf m e).2.1 :: ((lineOf m e).1.getLast?.getD []))
structure LineEnd (m : List (List Int)) (e : List Int) : Prop where
 fo : foV m.length (lineOf m e) = ((lineOf m e).1, otherOf m e)
 ne : 0 < (lineOf m e).1.length
 le : (lineOf m e).1.length ≤ 144
 l2 : ((lineOf m e).1.getLast?.getD []).length = 2
 ix : ixTo (endsL m.length) (lineOf m e).2.1 ((lineOf m e).1.getLast?.getD []) (endsL m.length).length = [otherOf m e]
theorem line_end {m : List (List Int)} (hs : isSign m = true) {e : List Int} (he : endsP m.length e = true) : LineEnd m e := by
 obtain ⟨k1, k2, _, _⟩ := isSign_facts hs
 have hok := (end_ok hs he).2
 have hw := lineOf_ok hs he
 have ho := wy_open (lp_of hs).good (rd e 1, rd e 2, rd e 0) (endsP_out he) 144 _ _ hok hw
 obtain ⟨w1, w2, i, j, w3, w4, w5, w6, w7, w8⟩ := wy_what (lp_of hs).good _ 144 _ _ hok hw
 have hp := endsP_of hs w4 w5 w6 w7 (w8 ho)
 refine ⟨?_, ?_, w1, by rw [w3]; rfl, ?_⟩
 ·unfold foV otherOf
  rw [ho, if_neg (by decide)]
 ·cases hq : (lineOf m e).1 with
  | nil => rw [hq] at w3; simp at w3
  | cons u v => simp
 ·unfold otherOf
  rw [w3]
  exact one_at k1 k2 w5 w6 w4 hp
/-- The pattern. -/
def patM (m : List (List Int)) : List Int := (endsL m.length).map (otherOf m)
theorem patM_take (m : List (List Int)) (i : Nat) (hi : i < (endsL m.length).length) : (patM m).take (i + 1) = (patM m).take i ++ [otherOf m ((endsL m.length).getD i [])] := by
 have hl : i < ((endsL m.length).map (otherOf m)).length := by rw [List.length_map]; exact hi
 unfold patM
 rw [List.take_succ_eq_append_getElem hl, List.getElem_map, List.getD_eq_getElem?_getD, List.getElem?_eq_getElem hi]; rfl
theorem impl_pattern_l0 {m : List (List Int)} (hs : isSign m = true) : ∀ (d i : Nat), i + d = 2 * m.length → Ev (fun k => impl_pattern.l0 k ((patM m).take i) ((2 * m.length : Nat) : Int) i m.length (acM m) (dnM m)) (patM m) := by
 obtain ⟨h1, h2, _, _⟩ := isSign_facts hs
 have hE := ends_all h1 h2
 have hll : (patM m).length = 2 * m.length := by unfold patM; rw [List.length_map, hE.len]
 intro d
 induction d with
 | zero =>
  intro i hi
  refine Ev.step (fun k => by rw [impl_pattern.l0]) ?_
  rw [List.take_of_length_le (by omega)]
  exact Ev.ite_neg (by omega) (Ev.now _)
 | succ d ih =>
  intro i hi
  refine Ev.step (fun k => by rw [impl_pattern.l0]) ?_
  have hl : i < (endsL m.length).length := by rw [hE.len]; omega
  have hnext := ih (i + 1) (by omega)
  rw [patM_take m i hl] at hnext
  refine Ev.ite_pos (by omega) (Ev.bind (fromEnd_ev hs i (by omega)) (Ev.ite_pos (by rw [List.length_take]; omega) ?_))
  rw [(line_end hs (ends_at hE i hl)).fo, wrapS i (by omega)]
  exact hnext
theorem impl_pattern_ev {m : List (List Int)} (hs : isSign m = true) : Ev (fun k => impl_pattern.f k m) (patM m) := by
 obtain ⟨h1, h2, _, _⟩ := isSign_facts hs
 unfold impl_pattern.f
 refine Ev.some_bind (loops_f hs) ?_
 rw [show wrap64 (2 * (m.length : Int)) = ((2 * m.length : Nat) : Int) by unfold wrap64; omega]
 exact impl_pattern_l0 hs (2 * m.length) 0 (by omega)
theorem loPattern_l1 {m : List (List Int)} (hs : isSign m = true) (out : List Int) (ho : out.length ≤ 100) (s : Int) (l : List Int) (hl : l.length = 2) (i : Nat) (hi : i < 100) (R : List Int)
  (hr : Ev (fun k => spec_loPattern.l0 k (endsL m.length) (out ++ ixTo (endsL m.length) s l (endsL m.length).length) (endsL m.length) (endsL m.length).length ((i + 1 : Nat) : Int) m.length (acM m) (dnM m)) R) :
  ∀ (d t : Nat), t + d = (endsL m.length).length → Ev (fun k => spec_loPattern.l1 k (endsL m.length) (out ++ ixTo (endsL m.length) s l t) s l (endsL m.length) (endsL m.length).length i (endsL m.length) (endsL m.length).length t m.length (acM m) (dnM m)) R := by
 obtain ⟨h1, h2, _, _⟩ := isSign_facts hs
 have hE := ends_all h1 h2
 intro d
 induction d with
 | zero =>
  intro t ht
  refine Ev.step (fun k => by rw [spec_loPattern.l1]) ?_
  have ht2 : t = (endsL m.length).length := by omega
  subst ht2
  rw [wrapS i (by omega)]
  exact Ev.ite_neg (by omega) hr
 | succ d ih =>
  intro t ht
  have htl : t < (endsL m.length).length := by omega
  have he3 := (end_ok hs (ends_at hE t htl)).1
  have hnext := ih (t + 1) (by omega)
  have hil := ixTo_len (endsL m.length) s l t
  have hEl := hE.len
  refine Ev.step (fun k => by rw [spec_loPattern.l1]) ?_
  refine Ev.ite_pos (by omega) (Ev.ite_pos (by omega) (Ev.ite_pos (by omega) ?_))
  rw [rd1_get, wrapS t (by omega)]
  obtain ⟨f, hf⟩ : ∃ f, f = (endsL m.length).getD t [] := ⟨_, rfl⟩
  rw [ixTo, ← hf] at hnext
  rw [← hf] at he3 ⊢
  have hno : ixHit f s l = false → Ev (fun k => spec_loPattern.l1 k (endsL m.length) (out ++ ixTo (endsL m.length) s l t) s l (endsL m.length) (endsL m.length).length i (endsL m.length) (endsL m.length).length ((t + 1 : Nat) : Int) m.length (acM m) (dnM m)) R := by
   intro h
   rw [h, if_neg (by decide), List.append_nil] at hnext
   exact hnext
  refine Ev.ite_pos (by omega) ?_
  by_cases c0 : rd f 0 = s
  ·refine Ev.ite_pos c0 (Ev.ite_pos (by omega) (Ev.ite_pos (by omega) ?_))
   by_cases c1 : rd f 1 = rd l 0
   ·refine Ev.ite_pos c1 (Ev.ite_pos (by omega) (Ev.ite_pos (by omega) ?_))
    by_cases c2 : rd f 2 = rd l 1
    ·refine Ev.ite_pos c2 (Ev.ite_pos (by rw [List.length_append]; omega) ?_)
     rw [show ixHit f s l = true by unfold ixHit; rw [c0, c1, c2]; simp, if_pos rfl, ← List.append_assoc] at hnext
     exact hnext
    ·exact Ev.ite_neg c2 (hno (by unfold ixHit; simp [c2]))
   ·exact Ev.ite_neg c1 (hno (by unfold ixHit; simp [c1]))
  ·exact Ev.ite_neg c0 (hno (by unfold ixHit; simp [c0]))
theorem last_rd (l : List (List Int)) (h : 0 < l.length) (h2 : l.length ≤ 1000) : rd_L1 l (wrap64 ((l.length : Int) - 1)) = l.getLast?.getD [] := by
 rw [show wrap64 ((l.length : Int) - 1) = ((l.length - 1 : Nat) : Int) by unfold wrap64; omega, rd1_get, List.getLast?_eq_getElem?, List.getD_eq_getElem?_getD]
theorem loPattern_l0 {m : List (List Int)} (hs : isSign m = true) : ∀ (d i : Nat), i + d = (endsL m.length).length → Ev (fun k => spec_loPattern.l0 k (endsL m.length) ((patM m).take i) (endsL m.length) (endsL m.length).length i m.length (acM m) (dnM m)) (patM m) := by
 obtain ⟨h1, h2, _, _⟩ := isSign_facts hs
 have hE := ends_all h1 h2
 have hEl := hE.len
 have hll : (patM m).length = 2 * m.length := by unfold patM; rw [List.length_map, hE.len]
 intro d
 induction d with
 | zero =>
  intro i hi
  refine Ev.step (fun k => by rw [spec_loPattern.l0]) ?_
  rw [List.take_of_length_le (by omega)]
  exact Ev.ite_neg (by omega) (Ev.now _)
 | succ d ih =>
  intro i hi
  have hl : i < (endsL m.length).length := by omega
  have he := ends_at hE i hl
  have h3 := (end_ok hs he).1
  have hle := line_end hs he
  have hnext := ih (i + 1) (by omega)
  rw [patM_take m i hl, ← hle.ix] at hnext
  refine Ev.step (fun k => by rw [spec_loPattern.l0]) ?_
  refine Ev.ite_pos (by omega) (Ev.ite_pos (by omega) (Ev.ite_pos (by omega) ?_))
  rw [rd1_get]
  refine Ev.ite_pos (by omega) (Ev.ite_pos (by omega) (Ev.ite_pos (by omega) ?_))
  have hne := hle.ne
  have hle2 := hle.le
  refine Ev.bind (loWay_ev (lp_of hs) (bits_of m) _ _ _ _ (end_ok hs he).2 (lineOf_ok hs he)) (Ev.ite_pos (by dsimp only; unfold wrap64; omega) (Ev.ite_pos (by dsimp only; unfold wrap64; omega) ?_))
  rw [last_rd _ hne (by omega)]
  have := loPattern_l1 hs ((patM m).take i) (by rw [List.length_take]; omega) (lineOf m ((endsL m.length).getD i [])).2.1 _ hle.l2 i (by omega) _ hnext (endsL m.length).length 0 (by omega)
  rw [ixTo, List.append_nil] at this
  exact this
theorem loPattern_ev {m : List (List Int)} (hs : isSign m = true) : Ev (fun k => spec_loPattern.f k m.length (acM m) (dnM m)) (patM m) := by
 obtain ⟨h1, h2, _, _⟩ := isSign_facts hs
 unfold spec_loPattern.f
 exact Ev.bind (ends_ev2 (ends_all h1 h2)) (loPattern_l0 hs (endsL m.length).length 0 (by omega))
theorem bothPatternOf (l : List (List Int)) (hf : fewRows l) : ∃ (r : List Int) (b : Bool), r.length ≤ 1048576 ∧ Ev (fun k => spec_PatternOf.f k l) (r, b) ∧ Ev (fun k => impl_PatternOf.f k l) (r, b) := by
 unfold spec_PatternOf.f impl_PatternOf.f
 cases hs : isSign l with
 | false =>
  have e1 : impl_IsSignMatrix.f l = some false := by unfold impl_IsSignMatrix.f; rw [hs]
  exact ⟨[], false, by simp, Ev.bind (hs ▸ sgGood_ev l hf) (Ev.ite_neg (by simp) (Ev.now _)), Ev.some_bind e1 (Ev.ite_neg (by simp) (Ev.now _))⟩
 | true =>
  obtain ⟨h1, h2, _, _⟩ := isSign_facts hs
  have hE := ends_all h1 h2
  have e1 : impl_IsSignMatrix.f l = some true := by unfold impl_IsSignMatrix.f; rw [hs]
  refine ⟨patM l, true, by unfold patM; rw [List.length_map, hE.len]; omega, Ev.bind (hs ▸ sgGood_ev l hf) (Ev.ite_pos rfl (Ev.bind (loOf_ev l hs) (Ev.bind (loPattern_ev hs) (Ev.now _)))), Ev.some_bind e1 (Ev.ite_pos rfl (Ev.bind (impl_pattern_ev hs) (Ev.now _)))⟩
end Go.Proofs.Ythbkjaieenochaa.L

namespace Go.Proofs.Ythbkjaieenochaa.Law
open Go.RowKit Go.Proofs.Ythbkjaieenochaa Go.Proofs.Ythbkjaieenochaa.P Go.Proofs.Ythbkjaieenochaa.L Go.Proofs.YthbkjaieenochaaW.PrintWords Go.Proofs.YthbkjaieenochaaW.PrintLast Go.Proofs.YthbkjaieenochaaW.PrintMore

theorem FnExactPatternOf (A : Option Addr) (cap : Nat) (l : List (List Int)) {W0 : World} (h : RowsIn W0 A l.length cap l) (W : World) (hW : W = W0) :
  Calls Try.prog 6 #[.slice A l.length cap] W fun e w' => e = .returned (.bool true) ∧ Below W.heap.size W w' := by
 subst hW
 refine lawPatternOf A cap l W h fun hf => ?_
 obtain ⟨r, b, hr, h1, h2⟩ := bothPatternOf l hf
 obtain ⟨k, hk⟩ := h1.rounds
 obtain ⟨k2, hk2⟩ := h2.rounds
 exact ⟨r, b, hr, fun W' A' c' g1 g2 => spec_PatternOf.calls k A' c' l _ _ W' g1 g2 hk, fun W' A' c' g1 g2 => impl_PatternOf.calls k2 A' c' l _ _ W' g1 g2 hk2⟩
end Go.Proofs.Ythbkjaieenochaa.Law
