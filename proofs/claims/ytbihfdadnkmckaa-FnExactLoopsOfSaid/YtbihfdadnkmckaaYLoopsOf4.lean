/- The program's LoopsOf answers as the reference's LoopsOf, for every table; the table stays as it was, and what comes back is the call's own (the walk of the law FnExactLoopsOf; no condition). -/
import Derived.Test.YtbihfdadnkmckaaYLoopsOf3
namespace Go.Proofs.Ytbihfdadnkmckaa.L
set_option linter.unusedVariables false
open Go.RowKit Go.Proofs.Ytbihfdadnkmckaa Go.Proofs.Ytbihfdadnkmckaa.P Go.Proofs.Ytbihfdadnkmckaa.LN Go.Proofs.YtbihfdadnkmckaaW.PrintWords Go.Proofs.YtbihfdadnkmckaaW.PrintLast Go.Proofs.YtbihfdadnkmckaaW.PrintMore

/-- The sums of the columns, when row i is read up to column j. -/
def colS (m : List (List Int)) (i j : Nat) : List Int := (List.range m.length).map fun t => ps (colL m t) (if t < j then i + 1 else i)
theorem colS_length (m : List (List Int)) (i j : Nat) : (colS m i j).length = m.length := by simp [colS]
theorem colS_rd (m : List (List Int)) (i j t : Nat) (h : t < m.length) : rd (colS m i j) (t : Int) = ps (colL m t) (if t < j then i + 1 else i) := by
 rw [rd_at _ _ (by rw [colS_length]; exact h)]; simp [colS]
theorem colS_end (m : List (List Int)) (i : Nat) : colS m i m.length = colS m (i + 1) 0 := by
 unfold colS
 apply List.map_congr_left
 intro t ht
 rw [if_pos (List.mem_range.1 ht), if_neg (by omega)]
theorem colS_set (m : List (List Int)) (i j : Nat) (hi : i < m.length) (hj : j < m.length) : (colS m i j).set j (ps (colL m j) i + rd (m.getD i []) j) = colS m i (j + 1) := by
 apply List.ext_getElem
 ·simp [colS]
 ·intro t h1 h2
  rw [colS_length] at h2
  rw [List.getElem_set]
  simp only [colS, List.getElem_map, List.getElem_range]
  by_cases e : j = t
  ·subst e
   rw [if_pos rfl, if_pos (by omega), ps, rd_colL m i j hi]
  ·rw [if_neg e]
   by_cases h : t < j
   ·rw [if_pos h, if_pos (by omega)]
   ·rw [if_neg h, if_neg (by omega)]
theorem rowL_succ (f : Nat → Nat → Int) (i j : Nat) : rowL f i (j + 1) = rowL f i j ++ [f i j] := by simp [rowL, List.range_succ]
theorem tableL_succ (f : Nat → Nat → Int) (i c : Nat) : tableL f (i + 1) c = tableL f i c ++ [rowL f i c] := by simp [tableL, List.range_succ]
theorem colS_zero (m : List (List Int)) : colS m 0 0 = List.replicate m.length 0 := by
 unfold colS
 rw [List.eq_replicate_iff]
 refine ⟨by simp, fun b hb => ?_⟩
 obtain ⟨t, _, rfl⟩ := List.mem_map.1 hb
 rw [if_neg (by omega)]; rfl
theorem tmod2 {x : Int} (h : 0 ≤ x) : Int.tmod x 2 = x % 2 := Int.tmod_eq_emod_of_nonneg h
theorem bit0 {x : Int} : 1 - x % 2 = bitI (x % 2 == 0) := by
 rcases (by omega : x % 2 = 0 ∨ x % 2 = 1) with h | h <;> rw [h] <;> rfl
theorem bit1 {x : Int} : x % 2 = bitI (x % 2 == 1) := by
 rcases (by omega : x % 2 = 0 ∨ x % 2 = 1) with h | h <;> rw [h] <;> rfl

theorem loOf_l1 (m : List (List Int)) (hs : isSign m = true) (AC : List (List Int)) (i : Nat) (hi : i < m.length) (hac : AC.length ≤ 10) (r : Int × List (List Int) × List (List Int))
  (hr : Ev (fun k => spec_loOf.l0 k m m.length m m.length ((i + 1 : Nat) : Int) m.length (AC ++ [rowL (acF m) i (m.length + 1)])) r) :
  ∀ (d j : Nat), j + d = m.length + 1 → Ev (fun k => spec_loOf.l1 k m m.length i (m.getD i []) (rowL (acF m) i j) (ps (m.getD i []) (if j ≤ m.length then j else m.length)) j m m.length i m.length AC) r := by
 obtain ⟨h1, h2, h3, h4⟩ := isSign_facts hs
 intro d
 induction d with
 | zero =>
  intro j hj
  refine Ev.step (fun k => by rw [spec_loOf.l1]) ?_
  have hj2 : j = m.length + 1 := by omega
  subst hj2
  rw [wrapS i (by omega)]
  exact Ev.ite_neg (by omega) (Ev.ite_pos (by omega) hr)
 | succ d ih =>
  intro j hj
  have hjn : j ≤ m.length := by omega
  have a0 := alt_ps (h4 i hi).1 (j := j) (by rw [h3 i hi]; omega)
  have hnext := ih (j + 1) (by omega)
  refine Ev.step (fun k => by rw [spec_loOf.l1]) ?_
  rw [if_pos hjn]
  have e1 : wrap64 (ps (m.getD i []) j + (i : Int)) = ps (m.getD i []) j + i := wrap_small (by omega) (by omega)
  have e2 : wrap64 (ps (m.getD i []) j + (i : Int) + (j : Int)) = ps (m.getD i []) j + i + j := wrap_small (by omega) (by omega)
  have e3 : wrap64 (1 - Int.tmod (wrap64 (wrap64 (ps (m.getD i []) j + (i : Int)) + (j : Int))) 2) = acF m i j := by
   rw [e1, e2, tmod2 (by omega), wrap_small (by omega) (by omega), bit0]; rfl
  refine Ev.ite_pos (by omega) (Ev.ite_pos (by rw [rowL_length]; omega) ?_)
  rw [e3, ← rowL_succ, wrapS j (by omega)]
  refine Ev.some_bind rfl ?_
  by_cases hlt : j < m.length
  ·have a1 := alt_ps (h4 i hi).1 (j := j + 1) (by rw [h3 i hi]; omega)
   refine Ev.ite_pos (by omega) (Ev.ite_pos (by omega) (Ev.ite_pos (by rw [h3 i hi]; omega) ?_))
   rw [if_pos (show j + 1 ≤ m.length by omega)] at hnext
   rw [show wrap64 (ps (m.getD i []) j + rd (m.getD i []) (j : Int)) = ps (m.getD i []) (j + 1) by rw [ps] at a1 ⊢; exact wrap_small (by omega) (by omega)]
   exact hnext
  ·have hj3 : j = m.length := by omega
   rw [if_neg (show ¬ j + 1 ≤ m.length by omega)] at hnext
   refine Ev.ite_neg (by omega) ?_
   rw [hj3] at hnext ⊢
   exact hnext
theorem loOf_l0 (m : List (List Int)) (hs : isSign m = true) (r : Int × List (List Int) × List (List Int))
  (hr : Ev (fun k => spec_loOf.l2 k m m.length (colS m 0 0) 0 m.length (acM m) []) r) : ∀ (d i : Nat), i + d = m.length → Ev (fun k => spec_loOf.l0 k m m.length m m.length i m.length (tableL (acF m) i (m.length + 1))) r := by
 obtain ⟨h1, h2, h3, h4⟩ := isSign_facts hs
 intro d
 induction d with
 | zero =>
  intro i hi
  refine Ev.step (fun k => by rw [spec_loOf.l0]) ?_
  have hi2 : i = m.length := by omega
  subst hi2
  refine Ev.ite_neg (by omega) (Ev.ite_pos (by omega) (Ev.ite_pos (by omega) ?_))
  rw [colS_zero] at hr
  exact hr
 | succ d ih =>
  intro i hi
  refine Ev.step (fun k => by rw [spec_loOf.l0]) ?_
  refine Ev.ite_pos (by omega) (Ev.ite_pos (by omega) (Ev.ite_pos (by omega) ?_))
  rw [rd1_get]
  have hnext := ih (i + 1) (by omega)
  rw [tableL_succ] at hnext
  exact loOf_l1 m hs _ i (by omega) (by rw [tableL_length]; omega) r hnext (m.length + 1) 0 (by omega)
theorem loOf_l4 (m : List (List Int)) (hs : isSign m = true) (i : Nat) (hi : i < m.length) (AC y : List (List Int)) (r : Int × List (List Int) × List (List Int))
  (hr : Ev (fun k => spec_loOf.l2 k m m.length (colS m (i + 1) 0) ((i + 1 : Nat) : Int) m.length AC y) r) : ∀ (d j : Nat), j + d = m.length → Ev (fun k => spec_loOf.l4 k m m.length (colS m i j) i (m.getD i []) (m.getD i []).length j m.length AC y) r := by
 obtain ⟨h1, h2, h3, h4⟩ := isSign_facts hs
 intro d
 induction d with
 | zero =>
  intro j hj
  refine Ev.step (fun k => by rw [spec_loOf.l4]) ?_
  rw [h3 i hi, wrapS i (by omega)]
  have hj2 : j = m.length := by omega
  subst hj2
  rw [colS_end]
  exact Ev.ite_neg (by omega) hr
 | succ d ih =>
  intro j hj
  have hjn : j < m.length := by omega
  have hjr : j < (m.getD i []).length := by rw [h3 i hi]; exact hjn
  have b1 := alt_ps (h4 j hjn).2 (j := i + 1) (by rw [colL_length]; omega)
  rw [ps, rd_colL m i j hi] at b1
  have hcs : rd (colS m i j) (j : Int) = ps (colL m j) i := by rw [colS_rd m i j j hjn, if_neg (by omega)]
  refine Ev.step (fun k => by rw [spec_loOf.l4]) ?_
  refine Ev.ite_pos (by omega) (Ev.ite_pos (by omega) (Ev.ite_pos (by omega) (Ev.ite_pos (by rw [colS_length]; omega) ?_)))
  rw [hcs, wrap_small (by omega) (by omega), wrapS j (by omega), Int.toNat_natCast, colS_set m i j hi hjn]
  exact ih (j + 1) (by omega)
theorem loOf_l3 (m : List (List Int)) (hs : isSign m = true) (i : Nat) (hi : i ≤ m.length) (AC DN : List (List Int)) (hdn : DN.length ≤ 10) (r : Int × List (List Int) × List (List Int))
  (hr : i < m.length → Ev (fun k => spec_loOf.l4 k m m.length (colS m i 0) i (m.getD i []) (m.getD i []).length 0 m.length AC (DN ++ [rowL (dnF m) i m.length])) r)
  (hr2 : ¬ i < m.length → Ev (fun k => spec_loOf.l2 k m m.length (colS m i 0) ((i + 1 : Nat) : Int) m.length AC (DN ++ [rowL (dnF m) i m.length])) r) :
  ∀ (d j : Nat), j + d = m.length → Ev (fun k => spec_loOf.l3 k m m.length (colS m i 0) i (rowL (dnF m) i j) (colS m i 0) (colS m i 0).length j m.length AC DN) r := by
 obtain ⟨h1, h2, h3, h4⟩ := isSign_facts hs
 intro d
 induction d with
 | zero =>
  intro j hj
  refine Ev.step (fun k => by rw [spec_loOf.l3]) ?_
  have hj2 : j = m.length := by omega
  subst hj2
  refine Ev.ite_neg (by rw [colS_length]; omega) (Ev.ite_pos (by omega) (Ev.some_bind rfl ?_))
  by_cases hlt : i < m.length
  ·refine Ev.ite_pos (by omega) (Ev.ite_pos (by omega) (Ev.ite_pos (by omega) ?_))
   rw [rd1_get]
   exact hr hlt
  ·rw [wrapS i (by omega)]
   exact Ev.ite_neg (by omega) (hr2 hlt)
 | succ d ih =>
  intro j hj
  have hjn : j < m.length := by omega
  have b0 := alt_ps (h4 j hjn).2 (j := i) (by rw [colL_length]; omega)
  have hcs : rd (colS m i 0) (j : Int) = ps (colL m j) i := by rw [colS_rd m i 0 j hjn, if_neg (by omega)]
  have hnext := ih (j + 1) (by omega)
  refine Ev.step (fun k => by rw [spec_loOf.l3]) ?_
  refine Ev.ite_pos (by rw [colS_length]; omega) (Ev.ite_pos (by omega) (Ev.ite_pos (by rw [colS_length]; omega) (Ev.ite_pos (by rw [rowL_length]; omega) ?_)))
  have e1 : wrap64 (ps (colL m j) i + (i : Int)) = ps (colL m j) i + i := wrap_small (by omega) (by omega)
  have e2 : wrap64 (ps (colL m j) i + (i : Int) + (j : Int)) = ps (colL m j) i + i + j := wrap_small (by omega) (by omega)
  rw [hcs, e1, e2, tmod2 (by omega), bit1, wrapS j (by omega)]
  rw [rowL_succ] at hnext
  exact hnext
theorem loOf_l2 (m : List (List Int)) (hs : isSign m = true) : ∀ (d i : Nat), i + d = m.length + 1 → Ev (fun k => spec_loOf.l2 k m m.length (colS m (if i ≤ m.length then i else m.length) 0) i m.length (acM m) (tableL (dnF m) i m.length)) ((m.length : Int), acM m, dnM m) := by
 obtain ⟨h1, h2, h3, h4⟩ := isSign_facts hs
 intro d
 induction d with
 | zero =>
  intro i hi
  refine Ev.step (fun k => by rw [spec_loOf.l2]) ?_
  have hi2 : i = m.length + 1 := by omega
  subst hi2
  exact Ev.ite_neg (by omega) (Ev.now _)
 | succ d ih =>
  intro i hi
  have hin : i ≤ m.length := by omega
  refine Ev.step (fun k => by rw [spec_loOf.l2]) ?_
  refine Ev.ite_pos (by omega) ?_
  rw [if_pos hin]
  have hnext := ih (i + 1) (by omega)
  rw [tableL_succ] at hnext
  refine loOf_l3 m hs i hin (acM m) (tableL (dnF m) i m.length) (by rw [tableL_length]; omega) _ (fun hlt => ?_) (fun hlt => ?_) m.length 0 (by omega)
  ·rw [if_pos (by omega)] at hnext
   exact loOf_l4 m hs i hlt _ _ _ hnext m.length 0 (by omega)
  ·rw [if_neg (by omega)] at hnext
   have hi2 : i = m.length := by omega
   rw [← hi2] at hnext ⊢
   exact hnext
theorem loOf_ev (m : List (List Int)) (hs : isSign m = true) : Ev (fun k => spec_loOf.f k m) ((m.length : Int), acM m, dnM m) := by
 have h2 := (isSign_facts hs).2.1
 unfold spec_loOf.f
 refine loOf_l0 m hs _ ?_ m.length 0 (by omega)
 have := loOf_l2 m hs (m.length + 1) 0 (by omega)
 rw [if_pos (Nat.zero_le _)] at this
 exact this
end Go.Proofs.Ytbihfdadnkmckaa.L

namespace Go.Proofs.Ytbihfdadnkmckaa.P
open Go.RowKit Go.Proofs.YtbihfdadnkmckaaW.PrintWords Go.Proofs.YtbihfdadnkmckaaW.PrintLast Go.Proofs.YtbihfdadnkmckaaW.PrintMore
attribute [local go_sem] max2_int min2_int max_two min_two max_three min_three max_four min_four   -- for this text's walks alone
set_option linter.unusedVariables false
set_option linter.unusedSimpArgs false

def spec_LoopsOf.f (k : Nat) (l0 : List (List Int)) : Option (Int × (List (List Int)) × (List (List Int)) × Bool) := (spec_sgGood.f k l0).bind fun t148 => (if t148 = true then ((spec_loOf.f k l0).bind fun bt149 => (some (bt149.1, bt149.2.1, bt149.2.2, true))) else (some (0, ([] : List (List Int)), ([] : List (List Int)), false)))
set_option maxHeartbeats 8000000 in
set_option maxRecDepth 100000 in
theorem spec_LoopsOf.calls (k : Nat) (A0 : Option Addr) (c0 : Nat) (l0 : List (List Int)) (r1 : Int) (r2 : List (List Int)) (r3 : List (List Int)) (r4 : Bool) (w : World) (hr0 : Kd.C (Kd.slice 3 (Kd.int .i64)) w A0 l0.length l0) (hc0 : l0.length ≤ c0) (h : spec_LoopsOf.f k l0 = some (r1, r2, r3, r4)) :
  Calls Try.prog 7 #[.slice A0 l0.length c0] w fun e w' => ∃ v1_ v2_ : Value, e = .returned (.tuple #[.agg #[.int .i64 r1, v1_, v2_], .bool r4]) ∧ Kd.S (Kd.slice 3 (Kd.int .i64)) 41 w' w.heap.size (fun k_ => some k_ ≠ (v2_ : Value).ownBlock) v1_ r2 ∧ Kd.S (Kd.slice 3 (Kd.int .i64)) 41 w' w.heap.size (fun k_ => some k_ ≠ (v1_ : Value).ownBlock) v2_ r3 ∧ Below w.heap.size w w' := by
 have hu25 := Try.underlying25
 have HR0 := Aside0.mk hr0
 have HC0 := Aside0.mk hc0
 clear hr0 hc0
 have HB := Aside0.mk (Below.refl w.heap.size w)
 have H : ((spec_sgGood.f k l0).bind fun t148 => (if t148 = true then ((spec_loOf.f k l0).bind fun bt149 => (some (bt149.1, bt149.2.1, bt149.2.2, true))) else (some (0, ([] : List (List Int)), ([] : List (List Int)), false)))) = some (r1, r2, r3, r4) := h
 clear h
 replace H := Option.bind_eq_some_iff.mp H
 obtain ⟨t148, A20, H⟩ := H
 replace H : (if t148 = true then ((spec_loOf.f k l0).bind fun bt149 => (some (bt149.1, bt149.2.1, bt149.2.2, true))) else (some (0, ([] : List (List Int)), ([] : List (List Int)), false))) = some (r1, r2, r3, r4) := H
 have A2 := Aside0.mk A20
 clear A20
 by_cases c3 : t148 = true
 ·subst c3
  have H1 : ((spec_loOf.f k l0).bind fun bt149 => (some (bt149.1, bt149.2.1, bt149.2.2, true))) = some (r1, r2, r3, r4) := by rw [if_pos rfl] at H; exact H
  clear H
  have H := H1
  clear H1
  replace H := Option.bind_eq_some_iff.mp H
  obtain ⟨⟨t149, t150, t153⟩, A40, H⟩ := H
  replace H : (some (t149, t150, t153, true)) = some (r1, r2, r3, r4) := H
  have A4 := Aside0.mk A40
  clear A40
  simp only [Option.some.injEq, Prod.mk.injEq] at H
  obtain ⟨rfl, rfl, rfl, rfl⟩ := H
  go_enter Try.func7, Try.ntmps7
  go_wp2_with (first | ((with_reducible refine gate_dst (N := 2) rfl ?_); refine box_event ?hg (N := 2) ?hd (cs := #[.int .i64 0, .slice none 0 0, .slice none 0 0]) (t := 25) ?hr ?_; (case hd => rfl); (case hg => rfl); (case hr => first | (go_simp; done) | (go_simp; rfl)); intro gb147 hg w5 hbox hb; have n0_ := Aside0.mk (below_step (by repeat (first | (with_reducible first | exact HB.out | apply below_alloc | apply pw_below_drewN | apply below_drew1) | exact HB.out)) hb); have n1_ := Aside0.mk (hbox); have n2_ := Aside0.mk ((by rw [hg]; exact (below_size (by repeat (first | (with_reducible first | exact HB.out | apply below_alloc | apply pw_below_drewN | apply below_drew1) | exact HB.out))) : w.heap.size ≤ gb147)); have n3_ := Aside0.mk ((by rw [hg]; exact (below_size (by repeat (first | (with_reducible first | exact HB.out | apply below_alloc | apply pw_below_drewN | apply below_drew1) | exact HB.out))) : w.heap.size ≤ gb147)); clear HB; have HB := n0_; have BK147 := n1_; have GW147 := n2_; have GE147 := n3_; clear n0_ n1_ n2_ n3_; clear hb hbox hg) | ((with_reducible refine gate_callee (f := 23) rfl ?_); refine goesL_ (some 5) rfl rfl Try.func23 (by kernel_rfl) rfl #[.slice A0 l0.length c0] rfl (by (try simp only [List.map_toArray, List.map_cons, List.map_nil]); first | done | rfl | (simp only [List.length_drop, List.length_take]; rfl)) ?_; (with_reducible refine (spec_sgGood.calls k _ _ l0 true _ ?side1 ?side2 A2.out).mono ?_); (case side1 => repeat (first | exact (Kd.C_below HR0.out HB.out) | (with_reducible refine Kd.C_alloc ?_ _) | (with_reducible refine Kd.C_drewN ?_ _) | (with_reducible refine Kd.C_drew ?_))); (case side2 => exact HC0.out); rintro e w6 ⟨rfl, hb⟩; refine ⟨_, rfl, ?_⟩; have n0_ := Aside0.mk (blk_below (g := gb147) (o := .cells #[.int .i64 0, .slice none 0 0, .slice none 0 0] 25 (0, 0)) (by (with_reducible repeat (first | refine blk_drewN ?_ _ | refine blk_drew ?_ | refine blk_alloc ?_ _)); exact BK147.out) hb); have n1_ := Aside0.mk (below_step (by repeat (first | (with_reducible first | exact HB.out | apply below_alloc | apply pw_below_drewN | apply below_drew1 | refine below_set ?_ GE147.out) | exact HB.out)) hb); clear BK147; clear HB; have BK147 := n0_; have HB := n1_; clear n0_ n1_; (try clear hb); (try clear hb2); (try clear hk); (try clear hi)) | ((with_reducible refine gate_callee (f := 24) rfl ?_); refine goesL_ (some 9) rfl rfl Try.func24 (by kernel_rfl) rfl #[.slice A0 l0.length c0] rfl (by (try simp only [List.map_toArray, List.map_cons, List.map_nil]); first | done | rfl | (simp only [List.length_drop, List.length_take]; rfl)) ?_; (with_reducible refine (spec_loOf.calls k _ _ l0 t149 t150 t153 _ ?side1 ?side2 A4.out).mono ?_); (case side1 => repeat (first | exact (Kd.C_below HR0.out HB.out) | (with_reducible refine Kd.C_alloc ?_ _) | (with_reducible refine Kd.C_drewN ?_ _) | (with_reducible refine Kd.C_drew ?_))); (case side2 => exact HC0.out); rintro e w7 ⟨v151, v154, rfl, ho0, ho1, hb⟩; refine ⟨_, rfl, ?_⟩; have n0_ := Aside0.mk (Kd.S_lower ho0 (below_size (by repeat (first | (with_reducible first | exact HB.out | apply below_alloc | apply pw_below_drewN | apply below_drew1 | refine below_set ?_ GE147.out) | exact HB.out)))); have n1_ := Aside0.mk (Kd.S_lower ho1 (below_size (by repeat (first | (with_reducible first | exact HB.out | apply below_alloc | apply pw_below_drewN | apply below_drew1 | refine below_set ?_ GE147.out) | exact HB.out)))); have n2_ := Aside0.mk (blk_below (g := gb147) (o := .cells #[.int .i64 0, .slice none 0 0, .slice none 0 0] 25 (0, 0)) (by (with_reducible repeat (first | refine blk_drewN ?_ _ | refine blk_drew ?_ | refine blk_alloc ?_ _)); exact BK147.out) hb); have n3_ := Aside0.mk (below_step (by repeat (first | (with_reducible first | exact HB.out | apply below_alloc | apply pw_below_drewN | apply below_drew1 | refine below_set ?_ GE147.out) | exact HB.out)) hb); clear BK147; clear HB; have HO152 := n0_; have HO155 := n1_; have BK147 := n2_; have HB := n3_; clear n0_ n1_ n2_ n3_; (try clear hb); (try clear hb2); (try clear hk); (try clear hi); (try clear ho0); (try clear ho1); have hcz8_0 : w7.cell? ⟨gb147, 0, none⟩ = some (.int .i64 0) := (blk_cell BK147.out 0).trans rfl; have hcz8_1 : w7.cell? ⟨gb147, 1, none⟩ = some (.slice none 0 0) := (blk_cell BK147.out 1).trans rfl; have hcz8_2 : w7.cell? ⟨gb147, 2, none⟩ = some (.slice none 0 0) := (blk_cell BK147.out 2).trans rfl; have hfz8_0 := blk_frozen BK147.out 0; have hfz8_1 := blk_frozen BK147.out 1; have hfz8_2 := blk_frozen BK147.out 2; obtain ⟨Ao9, co9, eo9⟩ := Kd.S_slice HO152.out; subst eo9; obtain ⟨Ao10, co10, eo10⟩ := Kd.S_slice HO155.out; subst eo10))
  refine bodyPost_ret (results_ct rfl _ _ gb147 25 #[.int .i64 t149, .slice Ao9 t150.length co9, .slice Ao10 t153.length co10] (0, 0) _ rfl (by (with_reducible repeat (first | refine blk_drewN ?_ _ | refine blk_drew ?_ | refine blk_alloc ?_ _)); refine blk_put (cs := #[.int .i64 t149, .slice Ao9 t150.length co9, .slice none 0 0]) ?_ 2 _ rfl; (with_reducible repeat (first | refine blk_drewN ?_ _ | refine blk_drew ?_ | refine blk_alloc ?_ _)); refine blk_put (cs := #[.int .i64 t149, .slice none 0 0, .slice none 0 0]) ?_ 1 _ rfl; (with_reducible repeat (first | refine blk_drewN ?_ _ | refine blk_drew ?_ | refine blk_alloc ?_ _)); refine blk_put (cs := #[.int .i64 0, .slice none 0 0, .slice none 0 0]) ?_ 0 _ rfl; (with_reducible repeat (first | refine blk_drewN ?_ _ | refine blk_drew ?_ | refine blk_alloc ?_ _)); exact BK147.out) Try.underlying25 rfl (by kernel_rfl)) rfl ?_
  exact ⟨_, _, by first | rfl | (simp [errW_none, errW_some] <;> rfl) | (simp [*, errW_none, errW_some] <;> rfl), by (with_reducible repeat (first | apply Kd.S_alloc | apply Kd.S_drewN | apply Kd.S_drew)); exact Kd.S_mono (Kd.S_far (p := ⟨gb147, 2, none⟩) (Kd.S_far (p := ⟨gb147, 1, none⟩) (Kd.S_far (p := ⟨gb147, 0, none⟩) (Kd.S_types HO152.out BK147.out (by decide)) (fun _ hk => hk.2) (.int .i64 t149)) (fun _ hk => hk.2) (.slice Ao9 t150.length co9)) (fun _ hk => hk.2) (.slice Ao10 t153.length co10)) (fun _ hk => hk.1), by (with_reducible repeat (first | apply Kd.S_alloc | apply Kd.S_drewN | apply Kd.S_drew)); exact Kd.S_mono (Kd.S_far (p := ⟨gb147, 2, none⟩) (Kd.S_far (p := ⟨gb147, 1, none⟩) (Kd.S_far (p := ⟨gb147, 0, none⟩) (Kd.S_types HO155.out BK147.out (by decide)) (fun _ hk => hk.2) (.int .i64 t149)) (fun _ hk => hk.2) (.slice Ao9 t150.length co9)) (fun _ hk => hk.2) (.slice Ao10 t153.length co10)) (fun _ hk => hk.1), by repeat (first | (with_reducible first | exact HB.out | apply below_alloc | apply pw_below_drewN | apply below_drew1 | refine below_set ?_ GE147.out) | exact HB.out)⟩
 ·replace c3 := Bool.eq_false_iff.mpr c3
  subst c3
  have H1 : (some (0, ([] : List (List Int)), ([] : List (List Int)), false)) = some (r1, r2, r3, r4) := by rw [if_neg (show ¬ (false = true) by decide)] at H; exact H
  clear H
  have H := H1
  clear H1
  simp only [Option.some.injEq, Prod.mk.injEq] at H
  obtain ⟨rfl, rfl, rfl, rfl⟩ := H
  go_enter Try.func7, Try.ntmps7
  go_wp2_with (first | ((with_reducible refine gate_dst (N := 2) rfl ?_); refine box_event ?hg (N := 2) ?hd (cs := #[.int .i64 0, .slice none 0 0, .slice none 0 0]) (t := 25) ?hr ?_; (case hd => rfl); (case hg => rfl); (case hr => first | (go_simp; done) | (go_simp; rfl)); intro gb147 hg w11 hbox hb; have n0_ := Aside0.mk (below_step (by repeat (first | (with_reducible first | exact HB.out | apply below_alloc | apply pw_below_drewN | apply below_drew1) | exact HB.out)) hb); have n1_ := Aside0.mk (hbox); have n2_ := Aside0.mk ((by rw [hg]; exact (below_size (by repeat (first | (with_reducible first | exact HB.out | apply below_alloc | apply pw_below_drewN | apply below_drew1) | exact HB.out))) : w.heap.size ≤ gb147)); have n3_ := Aside0.mk ((by rw [hg]; exact (below_size (by repeat (first | (with_reducible first | exact HB.out | apply below_alloc | apply pw_below_drewN | apply below_drew1) | exact HB.out))) : w.heap.size ≤ gb147)); clear HB; have HB := n0_; have BK147 := n1_; have GW147 := n2_; have GE147 := n3_; clear n0_ n1_ n2_ n3_; clear hb hbox hg) | ((with_reducible refine gate_callee (f := 23) rfl ?_); refine goesL_ (some 5) rfl rfl Try.func23 (by kernel_rfl) rfl #[.slice A0 l0.length c0] rfl (by (try simp only [List.map_toArray, List.map_cons, List.map_nil]); first | done | rfl | (simp only [List.length_drop, List.length_take]; rfl)) ?_; (with_reducible refine (spec_sgGood.calls k _ _ l0 false _ ?side1 ?side2 A2.out).mono ?_); (case side1 => repeat (first | exact (Kd.C_below HR0.out HB.out) | (with_reducible refine Kd.C_alloc ?_ _) | (with_reducible refine Kd.C_drewN ?_ _) | (with_reducible refine Kd.C_drew ?_))); (case side2 => exact HC0.out); rintro e w12 ⟨rfl, hb⟩; refine ⟨_, rfl, ?_⟩; have n0_ := Aside0.mk (blk_below (g := gb147) (o := .cells #[.int .i64 0, .slice none 0 0, .slice none 0 0] 25 (0, 0)) (by (with_reducible repeat (first | refine blk_drewN ?_ _ | refine blk_drew ?_ | refine blk_alloc ?_ _)); exact BK147.out) hb); have n1_ := Aside0.mk (below_step (by repeat (first | (with_reducible first | exact HB.out | apply below_alloc | apply pw_below_drewN | apply below_drew1 | refine below_set ?_ GE147.out) | exact HB.out)) hb); clear BK147; clear HB; have BK147 := n0_; have HB := n1_; clear n0_ n1_; (try clear hb); (try clear hb2); (try clear hk); (try clear hi); have hcz13_0 : w12.cell? ⟨gb147, 0, none⟩ = some (.int .i64 0) := (blk_cell BK147.out 0).trans rfl; have hcz13_1 : w12.cell? ⟨gb147, 1, none⟩ = some (.slice none 0 0) := (blk_cell BK147.out 1).trans rfl; have hcz13_2 : w12.cell? ⟨gb147, 2, none⟩ = some (.slice none 0 0) := (blk_cell BK147.out 2).trans rfl; have hfz13_0 := blk_frozen BK147.out 0; have hfz13_1 := blk_frozen BK147.out 1; have hfz13_2 := blk_frozen BK147.out 2))
  refine bodyPost_ret (results_ct rfl _ _ gb147 25 #[.int .i64 0, .slice none 0 0, .slice none 0 0] (0, 0) _ rfl (by (with_reducible repeat (first | refine blk_drewN ?_ _ | refine blk_drew ?_ | refine blk_alloc ?_ _)); refine blk_put (cs := #[.int .i64 0, .slice none 0 0, .slice none 0 0]) ?_ 2 _ rfl; (with_reducible repeat (first | refine blk_drewN ?_ _ | refine blk_drew ?_ | refine blk_alloc ?_ _)); refine blk_put (cs := #[.int .i64 0, .slice none 0 0, .slice none 0 0]) ?_ 1 _ rfl; (with_reducible repeat (first | refine blk_drewN ?_ _ | refine blk_drew ?_ | refine blk_alloc ?_ _)); refine blk_put (cs := #[.int .i64 0, .slice none 0 0, .slice none 0 0]) ?_ 0 _ rfl; (with_reducible repeat (first | refine blk_drewN ?_ _ | refine blk_drew ?_ | refine blk_alloc ?_ _)); exact BK147.out) Try.underlying25 rfl (by kernel_rfl)) rfl ?_
  exact ⟨_, _, by first | rfl | (simp [errW_none, errW_some] <;> rfl) | (simp [*, errW_none, errW_some] <;> rfl), by first | exact Kd.S_nil _ _ _ _ _ | exact Kd.N_nil _ _ _ _ _ | exact Kd.V_nil _ _ _ _ _ | exact Kd.Q_nil _ _ _ _ _ | exact Kd.R_nil _ _ _ _ _, by first | exact Kd.S_nil _ _ _ _ _ | exact Kd.N_nil _ _ _ _ _ | exact Kd.V_nil _ _ _ _ _ | exact Kd.Q_nil _ _ _ _ _ | exact Kd.R_nil _ _ _ _ _, by repeat (first | (with_reducible first | exact HB.out | apply below_alloc | apply pw_below_drewN | apply below_drew1 | refine below_set ?_ GE147.out) | exact HB.out)⟩

end Go.Proofs.Ytbihfdadnkmckaa.P

namespace Go.Proofs.Ytbihfdadnkmckaa.Law
open Go.RowKit Go.Proofs.Ytbihfdadnkmckaa Go.Proofs.Ytbihfdadnkmckaa.P Go.Proofs.Ytbihfdadnkmckaa.L Go.Proofs.YtbihfdadnkmckaaW.PrintWords Go.Proofs.YtbihfdadnkmckaaW.PrintLast Go.Proofs.YtbihfdadnkmckaaW.PrintMore
set_option linter.unusedVariables false
set_option linter.unusedSimpArgs false

theorem loopsOf_ev (l : List (List Int)) (hl : fewRows l) : Ev (fun k => spec_LoopsOf.f k l) (loN l, loA l, loD l, isSign l) := by
 unfold spec_LoopsOf.f loN loA loD
 refine Ev.bind (sgGood_ev l hl) ?_
 by_cases h : isSign l = true
 ·rw [if_pos h, if_pos h, if_pos h, h]
  exact Ev.ite_pos rfl (Ev.bind (loOf_ev l h) (Ev.now _))
 ·rw [if_neg h, if_neg h, if_neg h]
  have hf : isSign l = false := by simpa using h
  rw [hf]
  exact Ev.ite_neg (by simp) (Ev.now _)
theorem tableL_few (f : Nat → Nat → Int) (r c : Nat) (hr : r ≤ 1000) (hc : c ≤ 1000) : fewRows (tableL f r c) := by
 refine ⟨by rw [tableL_length]; omega, fun x hx => ?_⟩
 obtain ⟨i, _, rfl⟩ := List.mem_map.1 hx
 rw [rowL_length]; omega
theorem few_nil : fewRows [] := ⟨by simp, fun r hr => by cases hr⟩
theorem loA_few (l : List (List Int)) : fewRows (loA l) := by
 unfold loA
 by_cases h : isSign l = true
 ·rw [if_pos h]
  have := (isSign_facts h).2.1
  exact tableL_few _ _ _ (by omega) (by omega)
 ·rw [if_neg h]; exact few_nil
theorem loD_few (l : List (List Int)) : fewRows (loD l) := by
 unfold loD
 by_cases h : isSign l = true
 ·rw [if_pos h]
  have := (isSign_facts h).2.1
  exact tableL_few _ _ _ (by omega) (by omega)
 ·rw [if_neg h]; exact few_nil
theorem heldLo_ev (n : Int) (T U : List (List Int)) (h1 : fewRows T) (h2 : fewRows U) : Ev (fun k => laws_heldLoops.f k n (markT T 1) (markT U (nTo T 1 T.length)) 1) ((nTo U (nTo T 1 T.length) U.length : Nat) : Int) := by
 have hn1 := few_n h1
 have hnn := nTo_le U (nTo T 1 T.length) 1048576 h2.2 U.length
 have hn0 := nTo_le T 1 1048576 h1.2 T.length
 have hm1 : T.length * 1048576 ≤ 1048576 * 1048576 := Nat.mul_le_mul_right _ h1.1
 have hm2 : U.length * 1048576 ≤ 1048576 * 1048576 := Nat.mul_le_mul_right _ h2.1
 have l1 := h1.1
 have l2 := h2.1
 unfold laws_heldLoops.f
 exact Ev.bind (heldIntSS_ev T 1 (by omega) hn1) (Ev.ite_neg (by omega) (Ev.bind (heldIntSS_ev U (nTo T 1 T.length) (by omega) (by omega)) (Ev.ite_neg (by omega) (Ev.now _))))
theorem skipLoopsOf (A : Option Addr) (cap : Nat) (l : List (List Int)) (W : World) (h : RowsIn W A l.length cap l) (t : Int) (ht : t < 0) (k0 : Nat) (hsz : laws_szIntSS.f k0 l 1048576 = some t) :
  Calls Try.prog 3 #[.slice A l.length cap] W fun e w' => e = .returned (.bool true) ∧ Below W.heap.size W w' := by
 have HSZ := Aside0.mk (laws_szIntSS.calls k0 A cap l 1048576 t W h.read h.le hsz)
 have htd : decide (t < 0) = true := decide_eq_true ht
 clear h hsz
 go_enter Try.func3, Try.ntmps3
 go_wp2_with (go_at_call 6; refine HSZ.out.mono ?_; rintro e w1 ⟨rfl, hd⟩; have hb := hd.below; clear hd)
 go_ret
 exact ⟨rfl, hb⟩
theorem FnExactLoopsOf (A : Option Addr) (cap : Nat) (l : List (List Int)) {W0 : World} (h : RowsIn W0 A l.length cap l) (W : World) (hW : W = W0) :
  Calls Try.prog 3 #[.slice A l.length cap] W fun e w' => e = .returned (.bool true) ∧ Below W.heap.size W w' := by
 subst hW
 obtain ⟨t, ht, hd⟩ := szIntSS_in h
 obtain ⟨k, hk⟩ := ht.rounds
 by_cases hn : t < 0
 ·exact skipLoopsOf A cap l W h t hn k hk
 ·have hf := hd.resolve_left hn
  obtain ⟨ks, hks⟩ := (loopsOf_ev l hf).rounds
  exact walkLoopsOf A cap l (loN l) (loA l) (loD l) (isSign l) W h hf (loA_few l) (loD_few l) t hn k hk (eqLo_ev _ _ _ (loA_few l) (loD_few l)) (heldLo_ev _ _ _ (loA_few l) (loD_few l))
   (fun W' A' c' g1 g2 => spec_LoopsOf.calls ks A' c' l _ _ _ _ W' g1 g2 hks)
   (fun W' A' c' g1 g2 => LoopsOf_own A' c' l W' g1 g2)
end Go.Proofs.Ytbihfdadnkmckaa.Law
