/- Texts of one chain, in build order. -/
import Derived.Test.YtkiloimggmpggaaYLambdaSum24
namespace Go.Proofs.Ytkiloimggmpggaa.L
set_option linter.unusedVariables false
open Go.RowKit Go.Proofs.Ytkiloimggmpggaa Go.Proofs.Ytkiloimggmpggaa.P Go.Proofs.YtkiloimggmpggaaW.PrintWords Go.Proofs.YtkiloimggmpggaaW.PrintLast Go.Proofs.YtkiloimggmpggaaW.PrintMore

/-- The sums of the columns, when row i is read up to column j. -/
def colS (m : List (List Int)) (i j : Nat) : List Int := (List.range m.length).map fun t => ps (colL m t) (if t < j then i + 1 else i)
theorem colS_length (m : List (List Int)) (i j : Nat) : (colS m i j).length = m.length := by simp [colS]
theorem colS_rd (m : List (List Int)) (i j t : Nat) (h : t < m.length) : rd (colS m i j) (t : Int) = ps (colL m t) (if t < j then i + 1 else i) := by
 rw [rd_at _ _ (by rw [colS_length]; exact h)]; simp [colS]
theorem colS_end (m : List (List Int)) (i : Nat) : colS m i m.length = colS m (i + 1) 0 := by
 unfold colS
 apply List.map_congr_left
 intro t ht
 rw [if_pos (List.mem_range.1 ht), if_neg (by omega)]
theorem colS_set (m : List (List Int)) (i j : Nat) (hi : i < m.length) (hj : j < m.length) : (colS m i j).set j (ps (colL m j) i + rd (m.getD i []) j) = colS m i (j + 1) := by
 apply List.ext_getElem
 ·simp [colS]
 ·intro t h1 h2
  rw [colS_length] at h2
  rw [List.getElem_set]
  simp only [colS, List.getElem_map, List.getElem_range]
  by_cases e : j = t
  ·subst e
   rw [if_pos rfl, if_pos (by omega), ps, rd_colL m i j hi]
  ·rw [if_neg e]
   by_cases h : t < j
   ·rw [if_pos h, if_pos (by omega)]
   ·rw [if_neg h, if_neg (by omega)]
theorem rowL_succ (f : Nat → Nat → Int) (i j : Nat) : rowL f i (j + 1) = rowL f i j ++ [f i j] := by simp [rowL, List.range_succ]
theorem colS_zero (m : List (List Int)) : colS m 0 0 = List.replicate m.length 0 := by
 unfold colS
 rw [List.eq_replicate_iff]
 refine ⟨by simp, fun b hb => ?_⟩
 obtain ⟨t, _, rfl⟩ := List.mem_map.1 hb
 rw [if_neg (by omega)]; rfl

theorem weKinds_l1 (m : List (List Int)) (hs : isSign m = true) (acc : List (List Int)) (i : Nat) (hi : i < m.length) (r : List (List Int))
  (hr : ∀ x : Unit, Ev (fun k => spec_weKinds.l0 k (acc ++ [rowL (kF m) i m.length]) (colS m (i + 1) 0) m m.length (wrap64 ((i : Int) + 1))) r) (hacc : acc.length ≤ 6) :
  ∀ (d j : Nat), j + d = m.length → Ev (fun k => spec_weKinds.l1 k acc (colS m i j) (rowL (kF m) i j) (ps (m.getD i []) j) m m.length i (m.getD i []) (m.getD i []).length j) r := by
 obtain ⟨h1, h2, h3, h4⟩ := isSign_facts hs
 intro d
 induction d with
 | zero =>
  intro j hj
  refine Ev.step (fun k => by rw [spec_weKinds.l1]) ?_
  rw [h3 i hi]
  refine Ev.ite_neg (by omega) (Ev.ite_pos (by omega) ?_)
  have hj2 : j = m.length := by omega
  subst hj2
  rw [colS_end]
  exact hr ()
 | succ d ih =>
  intro j hj
  have hjn : j < m.length := by omega
  have hjr : j < (m.getD i []).length := by rw [h3 i hi]; exact hjn
  have a0 := alt_ps (h4 i hi).1 (j := j) (by omega)
  have a1 := alt_ps (h4 i hi).1 (j := j + 1) (by omega)
  have b0 := alt_ps (h4 j hjn).2 (j := i) (by rw [colL_length]; omega)
  have b1 := alt_ps (h4 j hjn).2 (j := i + 1) (by rw [colL_length]; omega)
  have x1 := alt_rd (h4 i hi).1 (j := j) hjr
  have hcs : rd (colS m i j) (j : Int) = ps (colL m j) i := by rw [colS_rd m i j j hjn, if_neg (by omega)]
  rw [ps] at b1
  rw [rd_colL m i j hi] at b1
  have e1 : wrap64 (ps (m.getD i []) j + rd (m.getD i []) j) = ps (m.getD i []) (j + 1) := by rw [ps]; exact wrap_small (by omega) (by omega)
  have e2 : wrap64 (rd (colS m i j) (j : Int) + rd (m.getD i []) j) = ps (colL m j) i + rd (m.getD i []) j := by rw [hcs]; exact wrap_small (by omega) (by omega)
  have e3 : wrap64 (wrap64 (2 * ps (m.getD i []) j) + rd (colS m i j) (j : Int)) = 2 * ps (m.getD i []) j + ps (colL m j) i := by
   rw [hcs, wrap_small (x := 2 * ps (m.getD i []) j) (by omega) (by omega)]; exact wrap_small (by omega) (by omega)
  have hz : (0 : Int) ≤ (j : Int) := by omega
  have hjz : (j : Int) < ((m.getD i []).length : Int) := by omega
  have hcl : (j : Int) < ((colS m i j).length : Int) := by rw [colS_length]; omega
  have hrw : (rowL (kF m) i j).length < 17592186044416 := by rw [rowL_length]; omega
  have hnext := ih (j + 1) (by omega)
  refine Ev.step (fun k => by rw [spec_weKinds.l1]) ?_
  refine Ev.ite_pos hjz (Ev.ite_pos hz (Ev.ite_pos hjz ?_))
  rw [e1, e2, e3, wrapS j (by omega), Int.toNat_natCast, colS_set m i j hi hjn]
  rw [rowL_succ] at hnext
  by_cases c1 : rd (m.getD i []) (j : Int) = 1
  ·refine Ev.ite_pos c1 (Ev.ite_pos hrw (Ev.ite_pos hcl ?_))
   have : kF m i j = 4 := by unfold kF; rw [if_pos c1]
   rw [this] at hnext
   exact hnext
  ·refine Ev.ite_neg c1 ?_
   by_cases c2 : rd (m.getD i []) (j : Int) = -1
   ·refine Ev.ite_pos c2 (Ev.ite_pos hrw (Ev.ite_pos hcl ?_))
    have : kF m i j = 5 := by unfold kF; rw [if_neg c1, if_pos c2]
    rw [this] at hnext
    exact hnext
   ·refine Ev.ite_neg c2 (Ev.ite_pos hcl (Ev.ite_pos hrw ?_))
    have : kF m i j = 2 * ps (m.getD i []) j + ps (colL m j) i := by unfold kF; rw [if_neg c1, if_neg c2]
    rw [this] at hnext
    exact hnext
theorem weKinds_l0 (m : List (List Int)) (hs : isSign m = true) : ∀ (d i : Nat), i + d = m.length → Ev (fun k => spec_weKinds.l0 k (tableL (kF m) i m.length) (colS m i 0) m m.length i) (kindsM m) := by
 obtain ⟨h1, h2, h3, h4⟩ := isSign_facts hs
 intro d
 induction d with
 | zero =>
  intro i hi
  refine Ev.step (fun k => by rw [spec_weKinds.l0]) ?_
  have hi2 : i = m.length := by omega
  subst hi2
  exact Ev.ite_neg (by omega) (Ev.now _)
 | succ d ih =>
  intro i hi
  refine Ev.step (fun k => by rw [spec_weKinds.l0]) ?_
  refine Ev.ite_pos (by omega) (Ev.ite_pos (by omega) (Ev.ite_pos (by omega) ?_))
  rw [rd1_get]
  refine weKinds_l1 m hs _ i (by omega) _ (fun _ => ?_) (by rw [tableL_length]; omega) m.length 0 (by omega)
  have e : tableL (kF m) i m.length ++ [rowL (kF m) i m.length] = tableL (kF m) (i + 1) m.length := by simp [tableL, List.range_succ]
  rw [e, wrapS i (by omega)]
  exact ih (i + 1) (by omega)
theorem weKinds_ev (m : List (List Int)) (hs : isSign m = true) : Ev (fun k => spec_weKinds.f k m) (kindsM m) := by
 have h2 := (isSign_facts hs).2.1
 unfold spec_weKinds.f
 refine Ev.ite_pos (by omega) (Ev.ite_pos (by omega) ?_)
 have := weKinds_l0 m hs m.length 0 (by omega)
 rw [colS_zero] at this
 exact this
end Go.Proofs.Ytkiloimggmpggaa.L

namespace Go.Proofs.Ytkiloimggmpggaa
open Go.RowKit Go.Proofs.YtkiloimggmpggaaW.PrintWords Go.Proofs.YtkiloimggmpggaaW.PrintLast Go.Proofs.YtkiloimggmpggaaW.PrintMore
set_option linter.unusedVariables false

/-- How often each kind is there. -/
def countsM (m : List (List Int)) : List Int := cntAll (kindsM m) (List.replicate 6 0)
theorem kindsM_range {m : List (List Int)} (hs : isSign m = true) (i j : Nat) (hi : i < (kindsM m).length) (hj : j < ((kindsM m).getD i []).length) : 0 ≤ rd ((kindsM m).getD i []) j ∧ rd ((kindsM m).getD i []) j < 6 := by
 rw [kindsM, tableL_length] at hi
 rw [kindsM, tableL_get _ _ _ _ hi] at hj ⊢
 rw [rowL_length] at hj
 have e : rd (rowL (kF m) i m.length) (j : Int) = kF m i j := by rw [L.rd_at _ _ (by rw [rowL_length]; exact hj)]; simp [rowL]
 rw [e]
 have := kF_range hs hi hj
 omega
def impl_kindCounts.f (l0 : List (List Int)) : Option (List Int) := if isSign l0 = true then some (countsM l0) else none
theorem impl_kindCounts.calls (A0 : Option Addr) (c0 : Nat) (l0 : List (List Int)) (r : List Int) (w : World) (hr0 : Kd.C (Kd.slice 3 (Kd.int .i64)) w A0 l0.length l0) (hc0 : l0.length ≤ c0) (h : impl_kindCounts.f l0 = some r) :
  Calls Try.prog 34 #[.slice A0 l0.length c0] w fun e w' => ∃ v0_ : Value, e = .returned (v0_) ∧ Kd.R (Kd.int .i64) 3 w' w.heap.size (fun _ => True) v0_ r ∧ Below w.heap.size w w' := by
 unfold impl_kindCounts.f at h
 by_cases hs : isSign l0 = true
 ·rw [if_pos hs] at h
  obtain rfl := Option.some.inj h
  exact impl_kindCounts.callsG A0 c0 l0 (kindsM l0) w (fun W hb => impl_kinds.calls A0 c0 l0 _ W (Kd.C_below hr0 hb) hc0 (by unfold impl_kinds.f; rw [if_pos hs])) (kindsM_range hs)
 ·rw [if_neg hs] at h
  cases h
def spec_weCounts.f (l0 : List (List Int)) : Option (List Int) := if isSign l0 = true then some (countsM l0) else none
theorem spec_weCounts.calls (A0 : Option Addr) (c0 : Nat) (l0 : List (List Int)) (r : List Int) (w : World) (hr0 : Kd.C (Kd.slice 3 (Kd.int .i64)) w A0 l0.length l0) (hc0 : l0.length ≤ c0) (h : spec_weCounts.f l0 = some r) :
  Calls Try.prog 24 #[.slice A0 l0.length c0] w fun e w' => ∃ v0_ : Value, e = .returned (v0_) ∧ Kd.R (Kd.int .i64) 3 w' w.heap.size (fun _ => True) v0_ r ∧ Below w.heap.size w w' := by
 unfold spec_weCounts.f at h
 by_cases hs : isSign l0 = true
 ·rw [if_pos hs] at h
  obtain rfl := Option.some.inj h
  obtain ⟨k, hk⟩ := (L.weKinds_ev l0 hs).rounds
  exact spec_weCounts.callsG A0 c0 l0 (kindsM l0) w (fun W hb => P.spec_weKinds.calls k A0 c0 l0 _ W (Kd.C_below hr0 hb) hc0 hk) (kindsM_range hs)
 ·rw [if_neg hs] at h
  cases h
end Go.Proofs.Ytkiloimggmpggaa

namespace Go.Proofs.Ytkiloimggmpggaa.P
open Go.RowKit Go.Proofs.YtkiloimggmpggaaW.PrintWords Go.Proofs.YtkiloimggmpggaaW.PrintLast Go.Proofs.YtkiloimggmpggaaW.PrintMore
attribute [local go_sem] max2_int min2_int max_two min_two max_three min_three max_four min_four   -- for this text's walks alone
set_option linter.unusedVariables false
set_option linter.unusedSimpArgs false

def impl_isCondensed.f (l0 : List (List Int)) (a1 : Int) : Option (Bool) := (impl_isWeights.f l0).bind fun t229 => (if t229 = true then ((impl_within.f a1 0 3).bind fun t230 => (some t230)) else (some false))
set_option maxHeartbeats 8000000 in
set_option maxRecDepth 100000 in
theorem impl_isCondensed.calls (A0 : Option Addr) (c0 : Nat) (l0 : List (List Int)) (a1 : Int) (r : Bool) (w : World) (hr0 : Kd.C (Kd.slice 3 (Kd.int .i64)) w A0 l0.length l0) (hc0 : l0.length ≤ c0) (h : impl_isCondensed.f l0 a1 = some r) :
  Calls Try.prog 31 #[.slice A0 l0.length c0, .int .i64 a1] w fun e w' => e = .returned (.bool r) ∧ Below w.heap.size w w' := by
 have HR0 := Aside0.mk hr0
 have HC0 := Aside0.mk hc0
 clear hr0 hc0
 have HB := Aside0.mk (Below.refl w.heap.size w)
 have H : ((impl_isWeights.f l0).bind fun t229 => (if t229 = true then ((impl_within.f a1 0 3).bind fun t230 => (some t230)) else (some false))) = some r := h
 clear h
 replace H := Option.bind_eq_some_iff.mp H
 obtain ⟨t229, A30, H⟩ := H
 replace H : (if t229 = true then ((impl_within.f a1 0 3).bind fun t230 => (some t230)) else (some false)) = some r := H
 have A3 := Aside0.mk A30
 clear A30
 by_cases c4 : t229 = true
 ·subst c4
  have H1 : ((impl_within.f a1 0 3).bind fun t230 => (some t230)) = some r := by rw [if_pos rfl] at H; exact H
  clear H
  have H := H1
  clear H1
  replace H := Option.bind_eq_some_iff.mp H
  obtain ⟨t230, A50, H⟩ := H
  replace H : (some t230) = some r := H
  have A5 := Aside0.mk A50
  clear A50
  obtain rfl := Option.some.inj H
  go_enter Try.func31, Try.ntmps31
  go_wp2_with (first | ((with_reducible refine gate_callee (f := 53) rfl ?_); refine goesL_ (some 6) rfl rfl Try.func53 (by kernel_rfl) rfl #[.slice A0 l0.length c0] rfl (by (try simp only [List.map_toArray, List.map_cons, List.map_nil]); first | done | rfl | (simp only [List.length_drop, List.length_take]; rfl)) ?_; (with_reducible refine (impl_isWeights.calls _ _ l0 true _ ?side1 ?side2 A3.out).mono ?_); (case side1 => repeat (first | exact HR0.out | (with_reducible refine Kd.C_alloc ?_ _) | (with_reducible refine Kd.C_drewN ?_ _) | (with_reducible refine Kd.C_drew ?_))); (case side2 => exact HC0.out); rintro e w6 ⟨rfl, hb⟩; refine ⟨_, rfl, ?_⟩; have n0_ := Aside0.mk (below_step (by repeat (first | (with_reducible first | exact HB.out | apply below_alloc | apply pw_below_drewN | apply below_drew1) | exact HB.out)) hb); clear HB; have HB := n0_; clear n0_; (try clear hb); (try clear hb2); (try clear hk); (try clear hi)) | (go_at_call 54; (with_reducible refine (impl_within.calls a1 0 3 t230 _ A5.out).mono ?_); rintro e w' ⟨rfl, ⟨nd, rfl⟩⟩))
  go_ret
  exact ⟨by first | rfl | (simp [errW_none, errW_some] <;> rfl) | (simp [*, errW_none, errW_some] <;> rfl), by repeat (first | (with_reducible first | exact HB.out | apply below_alloc | apply pw_below_drewN | apply below_drew1) | exact HB.out)⟩
 ·replace c4 := Bool.eq_false_iff.mpr c4
  subst c4
  have H1 : (some false) = some r := by rw [if_neg (show ¬ (false = true) by decide)] at H; exact H
  clear H
  have H := H1
  clear H1
  obtain rfl := Option.some.inj H
  go_enter Try.func31, Try.ntmps31
  go_wp2_with (first | ((with_reducible refine gate_callee (f := 53) rfl ?_); refine goesL_ (some 6) rfl rfl Try.func53 (by kernel_rfl) rfl #[.slice A0 l0.length c0] rfl (by (try simp only [List.map_toArray, List.map_cons, List.map_nil]); first | done | rfl | (simp only [List.length_drop, List.length_take]; rfl)) ?_; (with_reducible refine (impl_isWeights.calls _ _ l0 false _ ?side1 ?side2 A3.out).mono ?_); (case side1 => repeat (first | exact HR0.out | (with_reducible refine Kd.C_alloc ?_ _) | (with_reducible refine Kd.C_drewN ?_ _) | (with_reducible refine Kd.C_drew ?_))); (case side2 => exact HC0.out); rintro e w7 ⟨rfl, hb⟩; refine ⟨_, rfl, ?_⟩; have n0_ := Aside0.mk (below_step (by repeat (first | (with_reducible first | exact HB.out | apply below_alloc | apply pw_below_drewN | apply below_drew1) | exact HB.out)) hb); clear HB; have HB := n0_; clear n0_; (try clear hb); (try clear hb2); (try clear hk); (try clear hi)))
  go_ret
  exact ⟨by first | rfl | (simp [errW_none, errW_some] <;> rfl) | (simp [*, errW_none, errW_some] <;> rfl), by repeat (first | (with_reducible first | exact HB.out | apply below_alloc | apply pw_below_drewN | apply below_drew1) | exact HB.out)⟩

end Go.Proofs.Ytkiloimggmpggaa.P
