/- Texts of one chain, in build order. -/
import Derived.Test.YthbkjaieenochaaYSignsWithPattern33
namespace Go.Proofs.Ythbkjaieenochaa.L
set_option linter.unusedVariables false
open Go.RowKit Go.Proofs.Ythbkjaieenochaa Go.Proofs.Ythbkjaieenochaa.P Go.Proofs.Ythbkjaieenochaa.LN Go.Proofs.YthbkjaieenochaaW.PrintWords Go.Proofs.YthbkjaieenochaaW.PrintLast Go.Proofs.YthbkjaieenochaaW.PrintMore
set_option maxRecDepth 100000

theorem bitI_one (b : Bool) : (bitI b == 1) = b := by cases b <;> rfl
theorem bitI_01 (b : Bool) : bitI b = 0 ∨ bitI b = 1 := by cases b; exact .inl rfl; exact .inr rfl
theorem rdL_tab (f : Nat → Nat → Int) (r c i j : Nat) (hi : i < r) (hj : j < c) : r2 (tableL f r c) i j = f i j := by
 unfold r2 rd_L1
 rw [Int.toNat_natCast, tableL_get f r c i hi]
 simp [rowL, rd, List.getD_eq_getElem?_getD, hj]
theorem ac_r2 (m : List (List Int)) {i j : Nat} (hi : i < m.length) (hj : j < m.length + 1) : r2 (acM m) i j = acF m i j := rdL_tab _ _ _ _ _ hi hj
theorem dn_r2 (m : List (List Int)) {i j : Nat} (hi : i < m.length + 1) (hj : j < m.length) : r2 (dnM m) i j = dnF m i j := rdL_tab _ _ _ _ _ hi hj
theorem drw_0 (m : List (List Int)) {i j : Nat} (hi : i < m.length) (hj : j < m.length) : drw (r2 (acM m)) (r2 (dnM m)) i j 0 = ((ps (colL m j) i + i + j) % 2 == 1) := by
 unfold drw; rw [if_pos rfl, dn_r2 m (by omega) hj, dnF, bitI_one]
theorem drw_1 (m : List (List Int)) {i j : Nat} (hi : i < m.length) (hj : j < m.length) : drw (r2 (acM m)) (r2 (dnM m)) i j 1 = ((ps (m.getD i []) (j + 1) + i + ((j + 1 : Nat) : Int)) % 2 == 0) := by
 unfold drw; rw [if_neg (by decide), if_pos rfl, show ((j : Int) + 1) = ((j + 1 : Nat) : Int) by omega, ac_r2 m hi (by omega), acF, bitI_one]
theorem drw_2 (m : List (List Int)) {i j : Nat} (hi : i < m.length) (hj : j < m.length) : drw (r2 (acM m)) (r2 (dnM m)) i j 2 = ((ps (colL m j) (i + 1) + ((i + 1 : Nat) : Int) + j) % 2 == 1) := by
 unfold drw; rw [if_neg (by decide), if_neg (by decide), if_pos rfl, show ((i : Int) + 1) = ((i + 1 : Nat) : Int) by omega, dn_r2 m (by omega) hj, dnF, bitI_one]
theorem drw_3 (m : List (List Int)) {i j : Nat} (hi : i < m.length) (hj : j < m.length) : drw (r2 (acM m)) (r2 (dnM m)) i j 3 = ((ps (m.getD i []) j + i + j) % 2 == 0) := by
 unfold drw; rw [if_neg (by decide), if_neg (by decide), if_neg (by decide), ac_r2 m hi (by omega), acF, bitI_one]
theorem six {p q x i j : Int} (h1 : 0 ≤ p ∧ p ≤ 1) (h2 : 0 ≤ q ∧ q ≤ 1) (h3 : 0 ≤ p + x ∧ p + x ≤ 1) (h4 : 0 ≤ q + x ∧ q + x ≤ 1) (h0 : 0 ≤ i ∧ 0 ≤ j) :
  b2 ((q + i + j) % 2 == 1) + b2 ((p + x + i + (j + 1)) % 2 == 0) + b2 ((q + x + (i + 1) + j) % 2 == 1) + b2 ((p + i + j) % 2 == 0) = 2 := by
 have hp : p = 0 ∨ p = 1 := by omega
 have hq : q = 0 ∨ q = 1 := by omega
 have hx : x = -1 ∨ x = 0 ∨ x = 1 := by omega
 have ht : (i + j) % 2 = 0 ∨ (i + j) % 2 = 1 := by omega
 have e0 : (q + i + j) % 2 = (q + (i + j) % 2) % 2 := by omega
 have e1 : (p + x + i + (j + 1)) % 2 = (p + x + 1 + (i + j) % 2) % 2 := by omega
 have e2 : (q + x + (i + 1) + j) % 2 = (q + x + 1 + (i + j) % 2) % 2 := by omega
 have e3 : (p + i + j) % 2 = (p + (i + j) % 2) % 2 := by omega
 rw [e0, e1, e2, e3]
 rcases hp with rfl | rfl <;> rcases hq with rfl | rfl <;> rcases hx with rfl | rfl | rfl <;> rcases ht with h | h <;> rw [h] <;> first | rfl | omega
theorem lp_of {m : List (List Int)} (hs : isSign m = true) : LpOk m.length (acM m) (dnM m) := by
 obtain ⟨h1, h2, h3, h4⟩ := isSign_facts hs
 refine ⟨h2, tableL_length _ _ _, fun i hi => ?_, tableL_length _ _ _, fun i hi => ?_, ?_⟩
 ·unfold acM; rw [tableL_get _ _ _ _ hi, rowL_length]
 ·unfold dnM; rw [tableL_get _ _ _ _ hi, rowL_length]
 ·intro i j hij
  obtain ⟨g1, g2, g3, g4⟩ := ing_iff.1 hij
  obtain ⟨i, rfl⟩ := Int.eq_ofNat_of_zero_le g1
  obtain ⟨j, rfl⟩ := Int.eq_ofNat_of_zero_le g3
  have hi : i < m.length := by omega
  have hj : j < m.length := by omega
  have a0 := alt_ps (h4 i hi).1 (j := j) (by rw [h3 i hi]; omega)
  have a1 := alt_ps (h4 i hi).1 (j := j + 1) (by rw [h3 i hi]; omega)
  have b0 := alt_ps (h4 j hj).2 (j := i) (by rw [colL_length]; omega)
  have b1 := alt_ps (h4 j hj).2 (j := i + 1) (by rw [colL_length]; omega)
  rw [drw_0 m hi hj, drw_1 m hi hj, drw_2 m hi hj, drw_3 m hi hj]
  rw [ps] at a1 b1 ⊢
  rw [ps]
  rw [rd_colL m i j hi] at b1 ⊢
  exact six a0 b0 a1 b1 ⟨by omega, by omega⟩
/-- The edges are 0 or 1. -/
def Bits (n : Nat) (a d : List (List Int)) : Prop := ∀ i j : Nat, (i < n → j < n + 1 → r2 a i j = 0 ∨ r2 a i j = 1) ∧ (i < n + 1 → j < n → r2 d i j = 0 ∨ r2 d i j = 1)
theorem bits_of (m : List (List Int)) : Bits m.length (acM m) (dnM m) := fun i j => ⟨fun hi hj => by rw [ac_r2 m hi hj]; exact bitI_01 _, fun hi hj => by rw [dn_r2 m hi hj]; exact bitI_01 _⟩

theorem same_l0 (a b : List Int) (hl : a.length ≤ 1000) (hab : a.length = b.length) : ∀ (d i : Nat), i + d = a.length → Ev (fun k => spec_l1Same.l0 k a b a.length i) (decide (a.drop i = b.drop i)) := by
 intro d
 induction d with
 | zero =>
  intro i hi
  refine Ev.step (fun k => by rw [spec_l1Same.l0]) ?_
  rw [List.drop_eq_nil_of_le (by omega), List.drop_eq_nil_of_le (by omega)]
  exact Ev.ite_neg (by omega) (Ev.now _)
 | succ d ih =>
  intro i hi
  have ha : i < a.length := by omega
  have hb : i < b.length := by omega
  refine Ev.step (fun k => by rw [spec_l1Same.l0]) ?_
  refine Ev.ite_pos (by omega) (Ev.ite_pos (by omega) (Ev.ite_pos (by omega) (Ev.ite_pos (by omega) ?_)))
  rw [rdN a i ha, rdN b i hb, List.drop_eq_getElem_cons ha, List.drop_eq_getElem_cons hb]
  by_cases h : a[i] = b[i]
  ·refine Ev.ite_pos h ?_
   rw [wrapS i (by omega), show decide (a[i] :: a.drop (i + 1) = b[i] :: b.drop (i + 1)) = decide (a.drop (i + 1) = b.drop (i + 1)) from by rw [decide_eq_decide, List.cons.injEq]; exact ⟨fun h => h.2, fun h2 => ⟨h, h2⟩⟩]
   exact ih (i + 1) (by omega)
  ·refine Ev.ite_neg h ?_
   rw [decide_eq_false (fun h2 => h (List.cons.inj h2).1)]
   exact Ev.now _
theorem same_ev (a b : List Int) (hl : a.length ≤ 1000) : Ev (fun k => spec_l1Same.f k a b) (decide (a = b)) := by
 unfold spec_l1Same.f
 by_cases h : (a.length : Int) = (b.length : Int)
 ·refine Ev.ite_pos h ?_
  have := same_l0 a b hl (by omega) a.length 0 (by omega)
  simpa using this
 ·refine Ev.ite_neg h ?_
  rw [decide_eq_false (fun e => h (by rw [e]))]
  exact Ev.now _
theorem lin_eq (x n : Int) (h0 : -1 ≤ n) (h1 : n ≤ 10) : spec_l1In.f x 0 (wrap64 (n - 1)) = some (decide (0 ≤ x) && decide (x < n)) := by
 unfold spec_l1In.f
 rw [w64s (x := n - 1) (by omega) (by omega)]
 by_cases h : x ≥ 0
 ·rw [if_pos h, decide_eq_true (show 0 ≤ x from h), Bool.true_and]
  congr 1
  rw [decide_eq_decide]; omega
 ·rw [if_neg h, decide_eq_false (show ¬ 0 ≤ x from h), Bool.false_and]
/-- The four edges of a point. -/
def sidesL (a d : List (List Int)) (i j : Int) : List Int := [r2 d i j, r2 a i (j + 1), r2 d (i + 1) j, r2 a i j]
theorem sides_f {n : Nat} {a d : List (List Int)} (h : LpOk n a d) {i j : Int} (hi : ing n i j = true) (a0 : Int) : spec_loSides.f a0 a d i j = some (sidesL a d i j) := by
 obtain ⟨g1, g2, g3, g4⟩ := ing_iff.1 hi
 have h6 := h.n6
 have k1 := rdL_len h.rd' (i := i) g1 (by omega)
 have k2 := rdL_len h.ra (i := i) g1 (by omega)
 have k3 := rdL_len h.rd' (i := i + 1) (by omega) (by omega)
 unfold spec_loSides.f sidesL r2
 rw [w64s (x := i + 1) (by omega) (by omega), w64s (x := j + 1) (by omega) (by omega), h.la, h.ld, k1, k2, k3]
 rw [if_pos g1, if_pos (by omega), if_pos g3, if_pos (by omega), if_pos (by omega), if_pos (by omega), if_pos (by omega), if_pos (by omega), if_pos (by omega), if_pos (by omega), if_pos (by omega)]
theorem drwv0 (a d : Int → Int → Int) (i j : Int) : drw a d i j 0 = (d i j == 1) := by simp [drw]
theorem drwv1 (a d : Int → Int → Int) (i j : Int) : drw a d i j 1 = (a i (j + 1) == 1) := by simp [drw]
theorem drwv2 (a d : Int → Int → Int) (i j : Int) : drw a d i j 2 = (d (i + 1) j == 1) := by simp [drw]
theorem drwv3 (a d : Int → Int → Int) (i j : Int) : drw a d i j 3 = (a i j == 1) := by simp [drw]
theorem sides_rd {n : Nat} {a d : List (List Int)} (hb : Bits n a d) {i j u : Int} (hi : ing n i j = true) (h0 : 0 ≤ u) (h1 : u ≤ 3) : rd (sidesL a d i j) u = if drw (r2 a) (r2 d) i j u = true then 1 else 0 := by
 obtain ⟨g1, g2, g3, g4⟩ := ing_iff.1 hi
 obtain ⟨i, rfl⟩ := Int.eq_ofNat_of_zero_le g1
 obtain ⟨j, rfl⟩ := Int.eq_ofNat_of_zero_le g3
 have c0 := (hb i j).2 (by omega) (by omega)
 have c1 := (hb i (j + 1)).1 (by omega) (by omega)
 have c2 := (hb (i + 1) j).2 (by omega) (by omega)
 have c3 := (hb i j).1 (by omega) (by omega)
 rw [show ((j + 1 : Nat) : Int) = (j : Int) + 1 by omega] at c1
 rw [show ((i + 1 : Nat) : Int) = (i : Int) + 1 by omega] at c2
 rcases four h0 h1 with rfl | rfl | rfl | rfl
 ·show r2 d i j = _; rw [drwv0]; rcases c0 with c | c <;> rw [c] <;> rfl
 ·show r2 a i (j + 1) = _; rw [drwv1]; rcases c1 with c | c <;> rw [c] <;> rfl
 ·show r2 d (i + 1) j = _; rw [drwv2]; rcases c2 with c | c <;> rw [c] <;> rfl
 ·show r2 a i j = _; rw [drwv3]; rcases c3 with c | c <;> rw [c] <;> rfl
theorem rd_set0 (l : List Int) (s u : Int) (h0 : 0 ≤ s) (h1 : s < l.length) (hu : 0 ≤ u) : rd (l.set s.toNat 0) u = if u = s then 0 else rd l u := by
 unfold rd
 rw [List.getD_eq_getElem?_getD, List.getElem?_set]
 by_cases h : u = s
 ·subst h
  rw [if_pos rfl, if_pos rfl, if_pos (by omega)]; rfl
 ·rw [if_neg (by omega), if_neg h, List.getD_eq_getElem?_getD]
/-- Where only e and s are drawn: from any side the reference's search comes to e. -/
theorem loWay_rot {α : Type} {f : Nat → Int → Option α} {R : α} {e : Int} {L : List Int} (hL : ∀ u : Int, 0 ≤ u → u ≤ 3 → u ≠ e → rd L u = 0) (hstep : ∀ (u : Int), 0 ≤ u → u ≤ 3 → rd L u = 0 → ∀ k, f (k + 1) u = f k ((u + 1) % 4)) (HE : Ev (fun k => f k e) R) :
  ∀ (t : Nat) (u : Int), 0 ≤ u → u ≤ 3 → (u + t) % 4 = e → Ev (fun k => f k u) R := by
 intro t
 induction t with
 | zero =>
  intro u h0 h1 he
  have : u = e := by omega
  rw [this]; exact HE
 | succ t ih =>
  intro u h0 h1 he
  by_cases hu : u = e
  ·rw [hu]; exact HE
  ·exact Ev.step (hstep u h0 h1 (hL u h0 h1 hu)) (ih ((u + 1) % 4) (by omega) (by omega) (by omega))
theorem third {v : Int → Bool} (h : b2 (v 0) + b2 (v 1) + b2 (v 2) + b2 (v 3) = 2) {s e u : Int} (s0 : 0 ≤ s) (s1 : s ≤ 3) (e0 : 0 ≤ e) (e1 : e ≤ 3) (u0 : 0 ≤ u) (u1 : u ≤ 3) (hse : e ≠ s) (h1 : v s = true) (h2 : v e = true) (h3 : v u = true) : u = s ∨ u = e := by
 have t : b2 true = 1 := rfl
 rcases four s0 s1 with rfl | rfl | rfl | rfl <;> rcases four e0 e1 with rfl | rfl | rfl | rfl <;> rcases four u0 u1 with rfl | rfl | rfl | rfl <;>
  first | exact .inl rfl | exact .inr rfl | exact absurd rfl hse | (exfalso; simp only [h1, h2, h3, t] at h; omega)
theorem loWay_l0 {n : Nat} {a d : List (List Int)} (hok : LpOk n a d) (hb : Bits n a d) (f1 f2 f3 : Int) : ∀ (kf : Nat) (x : St) (out : List (List Int)) (r : List (List Int) × Int × Bool), okS (r2 a) (r2 d) n x → wy (r2 a) (r2 d) n (f1, f2, f3) kf x = some r → out.length + kf ≤ 1000 →
  Ev (fun k => spec_loWay.l0 k x.1 x.2.1 x.2.2 [f1, f2, f3] out n a d) (out ++ r.1, r.2.1) := by
 intro kf
 induction kf with
 | zero => intro x out r _ h; simp [wy] at h
 | succ kf ih =>
  intro x out r hx h hlen
  obtain ⟨i, j, s⟩ := x
  have hx' := hx
  obtain ⟨x1, x2, x3, x4⟩ := hx
  simp only at x1 x2 x3 x4 ⊢
  obtain ⟨g1, g2, g3, g4⟩ := ing_iff.1 x1
  have h6 := hok.n6
  obtain ⟨k1, k2, k3⟩ := exq_ok hok.good x1 x2 x3 x4
  obtain ⟨e, hee⟩ : ∃ e, e = exq (r2 a) (r2 d) i j s := ⟨_, rfl⟩
  obtain ⟨e0, e1⟩ := exq_4 (r2 a) (r2 d) i j s
  rw [← hee] at k1 k2 k3 e0 e1
  refine Ev.step (fun k => by rw [spec_loWay.l0]) ?_
  refine Ev.ite_pos (by omega) ?_
  rw [sides_f hok x1 n]
  refine Ev.some_bind rfl (Ev.ite_pos x2 (Ev.ite_pos (by simp [sidesL]; omega) ?_))
  obtain ⟨L, hLd⟩ : ∃ L, L = (sidesL a d i j).set s.toNat 0 := ⟨_, rfl⟩
  rw [← hLd]
  have hLl : L.length = 4 := by rw [hLd]; simp [sidesL]
  have hrd : ∀ u : Int, 0 ≤ u → u ≤ 3 → rd L u = if u = e then 1 else 0 := by
   intro u h0 h1
   rw [hLd, rd_set0 (sidesL a d i j) s u x2 (by simp [sidesL]; omega) h0, sides_rd hb x1 h0 h1]
   have hg := hok.good i j x1
   have c0 := four h0 h1
   by_cases hus : u = s
   ·rw [if_pos hus, if_neg (by rw [hus]; exact fun h => k1 h.symm)]
   ·rw [if_neg hus]
    by_cases hue : u = e
    ·rw [if_pos hue, if_pos (by rw [hue]; exact k2)]
    ·rw [if_neg hue, if_neg]
     intro hd
     rcases third (v := fun u => drw (r2 a) (r2 d) i j u) hg x2 x3 e0 e1 h0 h1 k1 x4 k2 hd with h | h
     ·exact hus h
     ·exact hue h
  refine loWay_rot (f := fun k u => spec_loWay.l1 k i j u [f1, f2, f3] (out ++ [[i, j]]) L n a d) (e := e) (L := L) (fun u h0 h1 hne => by rw [hrd u h0 h1, if_neg hne]) (fun u h0 h1 hz k => ?_) ?_ ((e - s) % 4).toNat s x2 x3 (by omega)
  ·show spec_loWay.l1 (k + 1) i j u _ _ L n a d = _
   rw [spec_loWay.l1, if_pos h0, if_pos (by omega), if_pos hz, w64s (by omega) (by omega), Int.tmod_eq_emod_of_nonneg (by omega)]
  ·have hj2 : Ev (fun k => spec_loWay.j2 k (mi i e) (mj j e) e [f1, f2, f3] (out ++ [[i, j]]) e n a d) (out ++ r.1, r.2.1) := by
    refine Ev.step (fun k => by rw [spec_loWay.j2]) ?_
    rw [lin_eq _ _ (by omega) (by omega), lin_eq _ _ (by omega) (by omega), w64s (x := e + 2) (by omega) (by omega), Int.tmod_eq_emod_of_nonneg (by omega)]
    by_cases hin : ing n (mi i e) (mj j e) = true
    ·obtain ⟨m1, m2, m3, m4⟩ := ing_iff.1 hin
     obtain ⟨w1, w2⟩ := wy_in hee hin h
     refine Ev.some_bind rfl (Ev.ite_pos (by simp [m1, m2]) (Ev.some_bind rfl (Ev.ite_pos (by simp [m3, m4]) (Ev.bind (same_ev _ _ (by simp)) ?_))))
     by_cases hc : (mi i e, mj j e, op e) = (f1, f2, f3)
     ·have hl : ([mi i e, mj j e, (e + 2) % 4] : List Int) = [f1, f2, f3] := by
       simp only [Prod.mk.injEq] at hc
       rw [← hc.1, ← hc.2.1, ← hc.2.2]; rfl
      obtain rfl := w1 hc
      refine Ev.ite_pos (decide_eq_true hl) ?_
      exact Ev.now _
     ·have hl : ¬ ([mi i e, mj j e, (e + 2) % 4] : List Int) = [f1, f2, f3] := by
       intro h_
       simp only [List.cons.injEq, and_true] at h_
       exact hc (by rw [← h_.1, ← h_.2.1, ← h_.2.2]; rfl)
      obtain ⟨q', hq1, rfl⟩ := w2 hc
      refine Ev.ite_neg (by rw [decide_eq_false hl]; simp) ?_
      have hst : LN.step (r2 a) (r2 d) (i, j, s) = (mi i e, mj j e, op e) := by unfold LN.step; rw [← hee]
      have hnx := (step_ok hok.good hx' (by rw [hst]; exact hin)).1
      rw [hst] at hnx
      have := ih (mi i e, mj j e, op e) (out ++ [[i, j]]) q' hnx hq1 (by simp only [List.length_append, List.length_cons, List.length_nil]; omega)
      rw [List.append_assoc] at this
      exact this
    ·obtain rfl := wy_out hee hin h
     have hor : (decide (0 ≤ mi i e) && decide (mi i e < (n : Int))) = false ∨ ((decide (0 ≤ mi i e) && decide (mi i e < (n : Int))) = true ∧ (decide (0 ≤ mj j e) && decide (mj j e < (n : Int))) = false) := by
      unfold ing at hin
      cases q1 : (decide (0 ≤ mi i e) && decide (mi i e < (n : Int))) with
      | false => exact .inl rfl
      | true =>
       rw [q1, Bool.true_and] at hin
       exact .inr ⟨rfl, by simpa using hin⟩
     rcases hor with hq | ⟨hq, hq2⟩
     ·exact Ev.some_bind rfl (Ev.ite_neg (by rw [hq]; decide) (Ev.now _))
     ·exact Ev.some_bind rfl (Ev.ite_pos hq (Ev.some_bind rfl (Ev.ite_neg (by rw [hq2]; decide) (Ev.now _))))
   refine Ev.step (fun k => by rw [spec_loWay.l1]) ?_
   refine Ev.ite_pos e0 (Ev.ite_pos (by omega) (Ev.ite_neg (by rw [hrd e e0 e1, if_pos rfl]; decide) ?_))
   have w1 : wrap64 (i - 1) = i - 1 := w64s (by omega) (by omega)
   have w2 : wrap64 (j + 1) = j + 1 := w64s (by omega) (by omega)
   have w3 : wrap64 (i + 1) = i + 1 := w64s (by omega) (by omega)
   have w4 : wrap64 (j - 1) = j - 1 := w64s (by omega) (by omega)
   rw [w1, w2, w3, w4]
   clear hrd hee k1 k2 k3 h hLd
   rcases four e0 e1 with rfl | rfl | rfl | rfl
   ·exact Ev.ite_pos rfl hj2
   ·exact Ev.ite_neg (by decide) (Ev.ite_pos rfl hj2)
   ·exact Ev.ite_neg (by decide) (Ev.ite_neg (by decide) (Ev.ite_pos rfl hj2))
   ·exact Ev.ite_neg (by decide) (Ev.ite_neg (by decide) (Ev.ite_neg (by decide) (Ev.ite_pos rfl hj2)))
theorem loWay_ev {n : Nat} {a d : List (List Int)} (hok : LpOk n a d) (hb : Bits n a d) (i j s : Int) (r : List (List Int) × Int × Bool) (hx : okS (r2 a) (r2 d) n (i, j, s)) (h : wy (r2 a) (r2 d) n (i, j, s) 144 (i, j, s) = some r) : Ev (fun k => spec_loWay.f k n a d i j s) (r.1, r.2.1) := by
 unfold spec_loWay.f
 exact loWay_l0 hok hb i j s 144 (i, j, s) [] r hx h (by simp)
end Go.Proofs.Ythbkjaieenochaa.L
