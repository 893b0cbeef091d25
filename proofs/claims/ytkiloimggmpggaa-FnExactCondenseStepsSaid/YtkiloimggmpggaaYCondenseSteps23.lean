/- The program's CondenseSteps answers as the reference's, for every table and number; what came back is the program's own. -/
import Derived.Test.YtkiloimggmpggaaYCondenseSteps22
namespace Go.Proofs.Ytkiloimggmpggaa.P
open Go.RowKit Go.Proofs.YtkiloimggmpggaaW.PrintWords Go.Proofs.YtkiloimggmpggaaW.PrintLast Go.Proofs.YtkiloimggmpggaaW.PrintMore
attribute [local go_sem] max2_int min2_int max_two min_two max_three min_three max_four min_four   -- for this text's walks alone
set_option linter.unusedVariables false
set_option linter.unusedSimpArgs false

def impl_CondenseSteps.l0 : Nat → List (List (S25)) → List (List (List (S25))) → Int → Int → Option ((List (List (S25))) × Bool)
 | 0, _, _, _, _ => none
 | k + 1, x6, x16, x17, x18 => if x18 < x17 then (if 0 ≤ x18 then (if x18 < (x16.length : Int) then ((impl_Ratio_42.f (rd_L5 x16 x18)).bind fun t336 => (if x6.length < 5864062014805 then (impl_CondenseSteps.l0 k (x6 ++ [t336]) x16 x17 (wrap64 (x18 + 1))) else (none))) else (none)) else (none)) else (some (x6, true))
def impl_CondenseSteps.f (k : Nat) (l0 : List (List Int)) (a1 : Int) : Option ((List (List (S25))) × Bool) := (impl_isCondensed.f l0 a1).bind fun t328 => (if t328 = true then ((impl_condense.f l0 a1).bind fun t332 => (impl_CondenseSteps.l0 k (([] : List (List (S25)))) t332 (t332.length : Int) 0)) else (some (([] : List (List (S25))), false)))
set_option maxHeartbeats 8000000 in
set_option maxRecDepth 100000 in
theorem impl_CondenseSteps.calls (k : Nat) (A0 : Option Addr) (c0 : Nat) (l0 : List (List Int)) (a1 : Int) (r1 : List (List (S25))) (r2 : Bool) (w : World) (hr0 : Kd.C (Kd.slice 3 (Kd.int .i64)) w A0 l0.length l0) (hc0 : l0.length ≤ c0) (h : impl_CondenseSteps.f k l0 a1 = some (r1, r2)) :
  Calls Try.prog 15 #[.slice A0 l0.length c0, .int .i64 a1] w fun e w' => ∃ v0_ : Value, e = .returned (.tuple #[v0_, .bool r2]) ∧ Kd.S (Kd.slice 25 k25) 53 w' w.heap.size (fun _ => True) v0_ r1 ∧ Below w.heap.size w w' := by
 have HR0 := Aside0.mk hr0
 have HC0 := Aside0.mk hc0
 clear hr0 hc0
 have HB := Aside0.mk (Below.refl w.heap.size w)
 have H : ((impl_isCondensed.f l0 a1).bind fun t328 => (if t328 = true then ((impl_condense.f l0 a1).bind fun t332 => (impl_CondenseSteps.l0 k (([] : List (List (S25)))) t332 (t332.length : Int) 0)) else (some (([] : List (List (S25))), false)))) = some (r1, r2) := h
 clear h
 replace H := Option.bind_eq_some_iff.mp H
 obtain ⟨t328, A30, H⟩ := H
 replace H : (if t328 = true then ((impl_condense.f l0 a1).bind fun t332 => (impl_CondenseSteps.l0 k (([] : List (List (S25)))) t332 (t332.length : Int) 0)) else (some (([] : List (List (S25))), false))) = some (r1, r2) := H
 have A3 := Aside0.mk A30
 clear A30
 by_cases c4 : t328 = true
 ·subst c4
  have H1 : ((impl_condense.f l0 a1).bind fun t332 => (impl_CondenseSteps.l0 k (([] : List (List (S25)))) t332 (t332.length : Int) 0)) = some (r1, r2) := by rw [if_pos rfl] at H; exact H
  clear H
  have H := H1
  clear H1
  obtain ⟨y329, hy329⟩ : ∃ y_ : List (List (S25)), y_ = (([] : List (List (S25)))) := ⟨_, rfl⟩
  replace H : ((impl_condense.f l0 a1).bind fun t332 => (impl_CondenseSteps.l0 k y329 t332 (t332.length : Int) 0)) = some (r1, r2) := by first | (rw [hy329]; with_reducible exact H) | (have H2_ := (Option.bind_some _ _).symm.trans H; rw [hy329]; with_reducible exact H2_) | (have H2_ := (Option.bind_some _ _).symm.trans H; with_reducible exact H2_) | with_reducible exact H | (rw [hy329]; exact H) | exact H
  have Ny329 := Aside0.mk hy329
  clear hy329
  replace H := Option.bind_eq_some_iff.mp H
  obtain ⟨t332, A50, H⟩ := H
  replace H : (impl_CondenseSteps.l0 k y329 t332 (t332.length : Int) 0) = some (r1, r2) := H
  have A5 := Aside0.mk A50
  clear A50
  have H' := Aside0.mk H
  clear H
  go_enter Try.func15, Try.ntmps15
  go_wp2_with (first | ((with_reducible refine gate_callee (f := 31) rfl ?_); refine goesL_ (some 11) rfl rfl Try.func31 (by kernel_rfl) rfl #[.slice A0 l0.length c0, .int .i64 a1] rfl (by (try simp only [List.map_toArray, List.map_cons, List.map_nil]); first | done | rfl | (simp only [List.length_drop, List.length_take]; rfl)) ?_; (with_reducible refine (impl_isCondensed.calls _ _ l0 a1 true _ ?side1 ?side2 A3.out).mono ?_); (case side1 => repeat (first | exact HR0.out | (with_reducible refine Kd.C_alloc ?_ _) | (with_reducible refine Kd.C_drewN ?_ _) | (with_reducible refine Kd.C_drew ?_))); (case side2 => exact HC0.out); rintro e w6 ⟨rfl, hb⟩; refine ⟨_, rfl, ?_⟩; have n0_ := Aside0.mk (below_step (by repeat (first | (with_reducible first | exact HB.out | apply below_alloc | apply pw_below_drewN | apply below_drew1) | exact HB.out)) hb); clear HB; have HB := n0_; clear n0_; (try clear hb); (try clear hb2); (try clear hk); (try clear hi)) | ((with_reducible refine gate_dst (N := 13) rfl ?_); refine Kd.S_lit (Kd.slice 25 k25) _ 53 ?hg (N := 13) ?hd (xs := ([] : List (List (S25)))) (inner := []) (ok := fun _ => True) (okp := fun _ => True) ?hr ?hp (fun _ hk => hk) trivial (Below.refl _ _) (Nat.le_refl _) (by simp) ?_; (case hd => rfl); (case hg => rfl); (case hr => first | (go_simp; done) | (go_simp; rfl)); (case hp => exact (Reps.none _ _)); intro v330 w7 ho8 hb hg_ hnew_; clear hg_ hnew_; (first | rw [← Ny329.out] at ho8 | (simp only [Int.reduceToNat] at ho8; rw [← Ny329.out] at ho8)); have n0_ := Aside0.mk (Kd.S_lower ho8 (below_size (by repeat (first | (with_reducible first | exact HB.out | apply below_alloc | apply pw_below_drewN | apply below_drew1) | exact HB.out)))); have n1_ := Aside0.mk (below_step (by repeat (first | (with_reducible first | exact HB.out | apply below_alloc | apply pw_below_drewN | apply below_drew1) | exact HB.out)) hb); clear HB; have HO331 := n0_; have HB := n1_; clear n0_ n1_; clear hb ho8) | ((with_reducible refine gate_callee (f := 41) rfl ?_); refine goesL_ (some 16) rfl rfl Try.func41 (by kernel_rfl) rfl #[.slice A0 l0.length c0, .int .i64 a1] rfl (by (try simp only [List.map_toArray, List.map_cons, List.map_nil]); first | done | rfl | (simp only [List.length_drop, List.length_take]; rfl)) ?_; (with_reducible refine (impl_condense.calls _ _ l0 a1 t332 _ ?side1 ?side2 A5.out).mono ?_); (case side1 => repeat (first | exact (Kd.C_below HR0.out HB.out) | (with_reducible refine Kd.C_alloc ?_ _) | (with_reducible refine Kd.C_drewN ?_ _) | (with_reducible refine Kd.C_drew ?_))); (case side2 => exact HC0.out); rintro e w9 ⟨v333, rfl, ho0, hb⟩; refine ⟨_, rfl, ?_⟩; have n0_ := Aside0.mk (Kd.S_below (by (with_reducible repeat (first | apply Kd.S_alloc | apply Kd.S_drewN | apply Kd.S_drew)); exact HO331.out) hb); have n1_ := Aside0.mk (Kd.V_lower (Kd.V_mono (ok' := fun k_ => some k_ ≠ (v330 : Value).ownBlock) ho0 (fun k_ hk_ => (Kd.fresh' (Kd.S_lt (by (with_reducible repeat (first | apply Kd.S_alloc | apply Kd.S_drewN | apply Kd.S_drew)); exact HO331.out)) k_ hk_))) (below_size (by repeat (first | (with_reducible first | exact HB.out | apply below_alloc | apply pw_below_drewN | apply below_drew1) | exact HB.out)))); have n2_ := Aside0.mk (below_step (by repeat (first | (with_reducible first | exact HB.out | apply below_alloc | apply pw_below_drewN | apply below_drew1) | exact HB.out)) hb); clear HO331; clear HB; have HO331 := n0_; have HO334 := n1_; have HB := n2_; clear n0_ n1_ n2_; (try clear hb); (try clear hb2); (try clear hk); (try clear hi); (try clear ho0); obtain ⟨Ao10, co10, eo10⟩ := Kd.V_slice HO334.out; subst eo10))
  go_loopg [6, 18] k (fun kq v6 v18 w' => ∃ (x6_1 : List (List (S25))) (x18_1 : Int), v18 = .int .i64 x18_1 ∧ Aside0 (impl_CondenseSteps.l0 kq x6_1 t332 (t332.length : Int) x18_1 = some (r1, r2)) ∧ Aside0 (kq ≤ k) ∧ Aside0 (Kd.S (Kd.slice 25 k25) 53 w' w.heap.size (fun _ => True) v6 x6_1) ∧ Aside0 (Kd.V (Kd.slice 53 (Kd.slice 25 k25)) 32 w' w.heap.size (fun k_ => some k_ ≠ (v6 : Value).ownBlock) (.slice Ao10 t332.length co10) t332) ∧ Aside0 (Below w.heap.size w w'))
  case atStart => exact ⟨(y329), (0), (by first | rfl | (simp; done) | (simp [*]; done)), H', ⟨Nat.le_refl _⟩, ⟨by (with_reducible repeat (first | apply Kd.S_alloc | apply Kd.S_drewN | apply Kd.S_drew)); exact HO331.out⟩, ⟨by (with_reducible repeat (first | apply Kd.V_alloc | apply Kd.V_drewN | apply Kd.V_drew)); exact HO334.out⟩, ⟨by repeat (first | (with_reducible first | exact HB.out | apply below_alloc | apply pw_below_drewN | apply below_drew1) | exact HB.out)⟩⟩
  case round =>
   clear H'
   try clear c1
   try clear p2
   try clear c3
   try clear c4
   obtain ⟨x6_1, x18_1, rfl, HA, HK1, HO_6, HO_16, HB⟩ := hrel
   cases gk with
   | zero => exact absurd HA.out (by simp [impl_CondenseSteps.l0])
   | succ k1 =>
    have H := HA.out
    clear HA
    simp only [impl_CondenseSteps.l0] at H
    by_cases c11 : x18_1 < (t332.length : Int)
    ·rw [if_pos c11] at H
     have c11b0 : decide (x18_1 < (t332.length : Int)) = true := decide_eq_true c11
     clear c11
     by_cases c12 : 0 ≤ x18_1
     ·rw [if_pos c12] at H
      have c12b0 : decide (0 ≤ x18_1) = true := decide_eq_true c12
      clear c12
      by_cases c13 : x18_1 < (t332.length : Int)
      ·rw [if_pos c13] at H
       have c13b0 : decide (x18_1 < (t332.length : Int)) = true := decide_eq_true c13
       clear c13
       replace H := Option.bind_eq_some_iff.mp H
       obtain ⟨t336, A140, H⟩ := H
       replace H : (if x6_1.length < 5864062014805 then (impl_CondenseSteps.l0 k1 (x6_1 ++ [t336]) t332 (t332.length : Int) (wrap64 (x18_1 + 1))) else (none)) = some (r1, r2) := H
       have A14 := Aside0.mk A140
       clear A140
       by_cases c15 : x6_1.length < 5864062014805
       ·rw [if_pos c15] at H
        have LMc15 := Aside0.mk c15
        clear c15
        obtain ⟨y339, hy339⟩ : ∃ y_ : List (List (S25)), y_ = (x6_1 ++ [t336]) := ⟨_, rfl⟩
        replace H : (impl_CondenseSteps.l0 k1 y339 t332 (t332.length : Int) (wrap64 (x18_1 + 1))) = some (r1, r2) := by first | (rw [hy339]; with_reducible exact H) | (have H2_ := (Option.bind_some _ _).symm.trans H; rw [hy339]; with_reducible exact H2_) | (have H2_ := (Option.bind_some _ _).symm.trans H; with_reducible exact H2_) | with_reducible exact H | (rw [hy339]; exact H) | exact H
        have Ny339 := Aside0.mk hy339
        clear hy339
        have H' := Aside0.mk H
        clear H
        have p335 : 0 ≤ (x18_1 : Int) := of_decide_eq_true (by first | (with_reducible assumption) | assumption)
        have q335 : x18_1 < (t332.length : Int) := of_decide_eq_true (by first | (with_reducible assumption) | assumption)
        obtain ⟨ad335, A335_0, c335_0, e335, hx335_0, hl335_0, hi335_0⟩ := at_L5 (Kd.V_reads' HO_16.out).2.2 x18_1 p335 q335
        cases e335
        obtain ⟨ce335, hce335, hMe335, hcc335⟩ := Kd.V_get HO_16.out [] x18_1 p335 (by first | exact q335 | exact of_decide_eq_true (by first | (with_reducible assumption) | assumption) | (have e_ := (Kd.V_reads' HO_16.out).1; omega))
        obtain ⟨ua335_0, uc335_0, rfl, ul335_0, ge335_0⟩ := Kd.FK_slice_open hMe335
        have hv335_0 := hcc335 0 _ rfl
        rw [Nat.add_zero, show ((Kd.slice 53 (Kd.slice 25 k25))).sz = 1 from rfl, Nat.mul_one] at hv335_0
        replace hv335_0 := Option.some.inj (hv335_0.symm.trans hx335_0)
        injection hv335_0 with hva_ hvn_ hvc_
        rw [hva_] at ge335_0
        rw [hvc_] at ul335_0
        have HL335_0 := Aside0.mk (show Kd.V (Kd.slice 25 k25) 53 _ w.heap.size _ _ (rd_L5 t332 x18_1) from Kd.V_mk ul335_0 ge335_0)
        clear hva_ hvn_ hvc_ ge335_0 ul335_0
        clear hcc335 hce335
        have HR335_0 := Aside0.mk hi335_0
        have HC335_0 := Aside0.mk hl335_0
        clear hi335_0 hl335_0
        replace p335 := eq_true p335
        replace q335 := eq_true q335
        go_wp2_with (first | ((with_reducible refine gate_callee (f := 42) rfl ?_); refine goesL_ (some 24) rfl rfl Try.func42 (by kernel_rfl) rfl #[.slice A335_0 (rd_L5 t332 x18_1).length c335_0] rfl (by (try simp only [List.map_toArray, List.map_cons, List.map_nil]); first | done | rfl | (simp only [List.length_drop, List.length_take]; rfl)) ?_; (with_reducible refine (impl_Ratio_42.calls _ _ (rd_L5 t332 x18_1) t336 _ ?side1 ?side2 A14.out).mono ?_); (case side1 => repeat (first | exact (by repeat (first | (with_reducible exact HR335_0.out) | (with_reducible refine Kd.C_alloc ?_ _) | (with_reducible refine Kd.C_drewN ?_ _) | (with_reducible refine Kd.C_drew ?_) | exact HR335_0.out)) | (with_reducible refine Kd.C_alloc ?_ _) | (with_reducible refine Kd.C_drewN ?_ _) | (with_reducible refine Kd.C_drew ?_))); (case side2 => exact HC335_0.out); rintro e w16 ⟨v337, rfl, ho0, hb⟩; refine ⟨_, rfl, ?_⟩; have n0_ := Aside0.mk (Kd.S_elder' (by (with_reducible repeat (first | apply Kd.S_alloc | apply Kd.S_drewN | apply Kd.S_drew)); exact HO_6.out) (Kd.R_base ho0) hb); have n1_ := Aside0.mk (Kd.V_elder' (by (with_reducible repeat (first | apply Kd.V_alloc | apply Kd.V_drewN | apply Kd.V_drew)); exact HO_16.out) (Kd.R_base ho0) hb); have n2_ := Aside0.mk (Kd.V_elder' (by (with_reducible repeat (first | apply Kd.V_alloc | apply Kd.V_drewN | apply Kd.V_drew)); exact HL335_0.out) (Kd.R_base ho0) hb); have n3_ := Aside0.mk (Kd.R_lower ho0 (below_size (by repeat (first | (with_reducible first | exact HB.out | apply below_alloc | apply pw_below_drewN | apply below_drew1) | exact HB.out)))); have n4_ := Aside0.mk (Kd.C_below (by repeat (first | (with_reducible exact HR335_0.out) | (with_reducible refine Kd.C_alloc ?_ _) | (with_reducible refine Kd.C_drewN ?_ _) | (with_reducible refine Kd.C_drew ?_) | exact HR335_0.out)) hb); have n5_ := Aside0.mk (below_step (by repeat (first | (with_reducible first | exact HB.out | apply below_alloc | apply pw_below_drewN | apply below_drew1) | exact HB.out)) hb); clear HO_6; clear HO_16; clear HL335_0; clear HR335_0; clear HB; have HO_6 := n0_; have HO_16 := n1_; have HL335_0 := n2_; have HO338 := n3_; have HR335_0 := n4_; have HB := n5_; clear n0_ n1_ n2_ n3_ n4_ n5_; (try clear hb); (try clear hb2); (try clear hk); (try clear hi); (try clear ho0); obtain ⟨Ao18, co18, eo18⟩ := Kd.R_slice HO338.out; subst eo18) | ((with_reducible refine gate_builtin (b := .append) (xs := #[.tmp 22, .tmp 25]) rfl ?_); at_builtin; refine Kd.S_append (Kd.slice 25 k25) (w0 := w) w.heap.size rfl (.tmp 22) (.tmp 25) 32 53 (.slice none 0 0) 24 rfl Try.underlying32 info53 rfl (by decide) (by omega) u6 x6_1 t336 [.slice Ao18 t336.length co18] (fun _ => True) (fun k_ => some k_ = (.slice Ao18 t336.length co18 : Value).ownBlock) rfl rfl ?aP (fun k_ hk_ => ((Kd.R_mono (ok' := fun k_ => ((fun _ => True)) k_ ∧ some k_ ≠ (u6 : Value).ownBlock) (Kd.R_apart' (HO338.out) (Kd.S_typed HO_6.out) (by decide)) (fun k_ hk => ⟨trivial, hk.2⟩))).1 k_ hk_.symm) ?aF ?aO ?aB ?aS ?aL ?_; (case aP => exact Kd.M_row (Kd.R_mono (Kd.R_tight rfl (Kd.R_mono (ok' := fun k_ => ((fun _ => True)) k_ ∧ some k_ ≠ (u6 : Value).ownBlock) (Kd.R_apart' (HO338.out) (Kd.S_typed HO_6.out) (by decide)) (fun k_ hk => ⟨trivial, hk.2⟩))) (fun _ h_ => h_))); (case aB => exact (by repeat (first | (with_reducible first | exact HB.out | apply below_alloc | apply pw_below_drewN | apply below_drew1) | exact HB.out))); (case aF => exact (fun _ _ => trivial)); (case aO => exact (by (with_reducible repeat (first | apply Kd.S_alloc | apply Kd.S_drewN | apply Kd.S_drew)); exact Kd.S_mono HO_6.out (fun k_ hk => ⟨trivial, fun e_ => hk.2 e_⟩))); (case aS => exact (below_size (by repeat (first | (with_reducible first | exact HB.out | apply below_alloc | apply pw_below_drewN | apply below_drew1) | exact HB.out)))); (case aL => have := LMc15.out; omega); intro v340 w17 ho hb hg hat; rw [← Ny339.out] at ho; have n0_ := Aside0.mk (Kd.V_afterv (ok := (fun k_ => some k_ ≠ (.slice Ao18 t336.length co18 : Value).ownBlock)) (by (with_reducible repeat (first | apply Kd.V_alloc | apply Kd.V_drewN | apply Kd.V_drew)); exact Kd.V_mono HO_16.out (fun _ hk => ⟨hk.2, hk.1⟩)) hg hat); have n1_ := Aside0.mk (Kd.V_afterv (ok := (fun k_ => some k_ ≠ (.slice Ao18 t336.length co18 : Value).ownBlock)) (by (with_reducible repeat (first | apply Kd.V_alloc | apply Kd.V_drewN | apply Kd.V_drew)); exact Kd.V_mono HL335_0.out (fun _ hk => ⟨hk.2, hk.1⟩)) hg hat); have n2_ := Aside0.mk (hb); have n3_ := Aside0.mk (ho); clear HO_16; clear HL335_0; clear HB; clear HO_6; clear HO338; have HO_16 := n0_; have HL335_0 := n1_; have HB := n2_; have HO341 := n3_; clear n0_ n1_ n2_ n3_; clear ho hb hg hat))
        go_roundg k1
        case measure => have := HK1.out; omega
        case rel => exact ⟨(y339), (wrap64 (x18_1 + 1)), (by first | rfl | (simp; done) | (simp [*]; done)), H', ⟨by have := HK1.out; omega⟩, ⟨by (with_reducible repeat (first | apply Kd.S_alloc | apply Kd.S_drewN | apply Kd.S_drew)); exact HO341.out⟩, ⟨by (with_reducible repeat (first | apply Kd.V_alloc | apply Kd.V_drewN | apply Kd.V_drew)); exact Kd.V_mono HO_16.out (fun _ hk => hk.2)⟩, ⟨by repeat (first | (with_reducible first | exact HB.out | apply below_alloc | apply pw_below_drewN | apply below_drew1) | exact HB.out)⟩⟩
       ·rw [if_neg c15] at H
        exact absurd H (by simp)
      ·rw [if_neg c13] at H
       exact absurd H (by simp)
     ·rw [if_neg c12] at H
      exact absurd H (by simp)
    ·rw [if_neg c11] at H
     have c11b0 : decide (x18_1 < (t332.length : Int)) = false := decide_eq_false c11
     clear c11
     simp only [Option.some.injEq, Prod.mk.injEq] at H
     obtain ⟨rfl, rfl⟩ := H
     go_wp2
     go_ret2
     exact ⟨_, by first | rfl | (simp [errW_none, errW_some] <;> rfl) | (simp [*, errW_none, errW_some] <;> rfl), by (with_reducible repeat (first | apply Kd.S_alloc | apply Kd.S_drewN | apply Kd.S_drew)); exact HO_6.out, by repeat (first | (with_reducible first | exact HB.out | apply below_alloc | apply pw_below_drewN | apply below_drew1) | exact HB.out)⟩
 ·replace c4 := Bool.eq_false_iff.mpr c4
  subst c4
  have H1 : (some (([] : List (List (S25))), false)) = some (r1, r2) := by rw [if_neg (show ¬ (false = true) by decide)] at H; exact H
  clear H
  have H := H1
  clear H1
  simp only [Option.some.injEq, Prod.mk.injEq] at H
  obtain ⟨rfl, rfl⟩ := H
  go_enter Try.func15, Try.ntmps15
  go_wp2_with (first | ((with_reducible refine gate_callee (f := 31) rfl ?_); refine goesL_ (some 11) rfl rfl Try.func31 (by kernel_rfl) rfl #[.slice A0 l0.length c0, .int .i64 a1] rfl (by (try simp only [List.map_toArray, List.map_cons, List.map_nil]); first | done | rfl | (simp only [List.length_drop, List.length_take]; rfl)) ?_; (with_reducible refine (impl_isCondensed.calls _ _ l0 a1 false _ ?side1 ?side2 A3.out).mono ?_); (case side1 => repeat (first | exact HR0.out | (with_reducible refine Kd.C_alloc ?_ _) | (with_reducible refine Kd.C_drewN ?_ _) | (with_reducible refine Kd.C_drew ?_))); (case side2 => exact HC0.out); rintro e w19 ⟨rfl, hb⟩; refine ⟨_, rfl, ?_⟩; have n0_ := Aside0.mk (below_step (by repeat (first | (with_reducible first | exact HB.out | apply below_alloc | apply pw_below_drewN | apply below_drew1) | exact HB.out)) hb); clear HB; have HB := n0_; clear n0_; (try clear hb); (try clear hb2); (try clear hk); (try clear hi)))
  go_ret2
  exact ⟨_, by first | rfl | (simp [errW_none, errW_some] <;> rfl) | (simp [*, errW_none, errW_some] <;> rfl), by first | exact Kd.S_nil _ _ _ _ _ | exact Kd.N_nil _ _ _ _ _ | exact Kd.V_nil _ _ _ _ _ | exact Kd.Q_nil _ _ _ _ _ | exact Kd.R_nil _ _ _ _ _, by repeat (first | (with_reducible first | exact HB.out | apply below_alloc | apply pw_below_drewN | apply below_drew1) | exact HB.out)⟩

end Go.Proofs.Ytkiloimggmpggaa.P

namespace Go.Proofs.Ytkiloimggmpggaa.L
open Go.RowKit Go.Proofs.Ytkiloimggmpggaa Go.Proofs.Ytkiloimggmpggaa.P Go.Proofs.YtkiloimggmpggaaW.PrintWords Go.Proofs.YtkiloimggmpggaaW.PrintLast Go.Proofs.YtkiloimggmpggaaW.PrintMore
set_option linter.unusedVariables false
theorem steps_shape (lam : Nat) : ∀ (d : Nat) (bef now : List (List Q)), now.length = d + 1 → (∀ r ∈ now, r.length = d + 1) → ∀ T ∈ stepsQ lam d bef now, ∃ m, m ≤ d + 1 ∧ T.length = m ∧ ∀ r ∈ T, r.length = m
 | 0, bef, now, h1, h2, T, hT => by
  simp only [stepsQ, List.mem_singleton] at hT
  subst hT
  exact ⟨1, Nat.le_refl _, h1, h2⟩
 | d + 1, bef, now, h1, h2, T, hT => by
  rw [stepsQ, List.mem_cons] at hT
  rcases hT with rfl | hT
  ·exact ⟨d + 1 + 1, Nat.le_refl _, h1, h2⟩
  ·obtain ⟨m, hm, e1, e2⟩ := steps_shape lam d now (nextQ lam (d + 1) now bef) (by simp [nextQ, rowsQ]) (fun r hr => by
    simp only [nextQ, rowsQ, List.mem_map] at hr
    obtain ⟨i, _, rfl⟩ := hr
    exact rowQ_length _ _ _ _ _) T hT
   exact ⟨m, by omega, e1, e2⟩
theorem tabs_shape (l : List (List Int)) (a1 : Int) (hb : weightsB l = true) : ∀ T ∈ tabsQ l a1, ∃ m, m ≤ 4 ∧ T.length = m ∧ ∀ r ∈ T, r.length = m := by
 obtain ⟨h4, hTr, _⟩ := weights_ok hb
 intro T hT
 obtain ⟨m, hm, e1, e2⟩ := steps_shape _ _ _ _ (by simp [now0]; omega) (fun r hr => by
  simp only [now0, List.mem_map] at hr
  obtain ⟨r0, h0, rfl⟩ := hr
  obtain ⟨i, hi, rfl⟩ := List.getElem_of_mem h0
  have := hTr i hi
  rw [getD_at l [] i hi] at this
  rw [List.length_map, this]
  omega) T hT
 exact ⟨m, by omega, e1, e2⟩
theorem flat_tS (T : List (List Q)) : (tS T).flatten = flat T := by
 unfold tS flat
 rw [List.map_flatten]
theorem flat_few {T : List (List Q)} {m : Nat} (hm : m ≤ 4) (h1 : T.length = m) (h2 : ∀ r ∈ T, r.length = m) : (flat T).length ≤ 16 := by
 rw [flat_length m T (fun i hi => by rw [List.getD_eq_getElem?_getD, List.getElem?_eq_getElem hi, Option.getD_some]; exact h2 _ (List.getElem_mem hi)), h1]
 exact Nat.le_trans (Nat.mul_le_mul hm hm) (by decide)
theorem concat_tS {T : List (List Q)} {m : Nat} (hm : m ≤ 4) (h1 : T.length = m) (h2 : ∀ r ∈ T, r.length = m) : impl_Ratio_42.f (tS T) = some (flat T) := by
 unfold impl_Ratio_42.f
 rw [if_pos, flat_tS]
 refine ⟨by simp only [tS, List.length_map]; omega, List.all_eq_true.2 fun r hr => ?_⟩
 simp only [tS, List.mem_map] at hr
 obtain ⟨r0, h0, rfl⟩ := hr
 have := h2 r0 h0
 exact decide_eq_true (by rw [List.length_map]; omega)
theorem steps_run (Ts : List (List (List Q))) (hl : Ts.length ≤ 4) (hT : ∀ T ∈ Ts, ∃ m, m ≤ 4 ∧ T.length = m ∧ ∀ r ∈ T, r.length = m) : ∀ (d i : Nat), i + d = Ts.length →
  Ev (fun k => impl_CondenseSteps.l0 k ((Ts.take i).map flat) (Ts.map tS) (Ts.length : Nat) i) (Ts.map flat, true) := by
 intro d
 induction d with
 | zero =>
  intro i hi
  refine Ev.step (fun k => by rw [impl_CondenseSteps.l0]) ?_
  rw [List.take_of_length_le (by omega)]
  exact Ev.ite_neg (by omega) (Ev.now _)
 | succ d ih =>
  intro i hi
  have hlt : i < Ts.length := by omega
  obtain ⟨m, hm, e1, e2⟩ := hT _ (List.getElem_mem hlt)
  refine Ev.step (fun k => by rw [impl_CondenseSteps.l0]) ?_
  have hx : rd_L5 (Ts.map tS) (i : Int) = tS Ts[i] := by
   unfold rd_L5
   rw [Int.toNat_natCast, List.getD_eq_getElem?_getD, List.getElem?_map, List.getElem?_eq_getElem hlt]
   rfl
  have h0 : ((Ts.take i).map flat).length ≤ 4 := by rw [List.length_map, List.length_take]; omega
  have hn : (Ts.take i).map flat ++ [flat Ts[i]] = (Ts.take (i + 1)).map flat := by rw [List.take_succ_eq_append_getElem hlt, List.map_append]; rfl
  rw [hx, wrapS i (by omega), List.length_map]
  refine Ev.ite_pos (by omega) (Ev.ite_pos (by omega) (Ev.ite_pos (by omega) (Ev.some_bind (concat_tS hm e1 e2) (Ev.ite_pos (by omega) ?_))))
  rw [hn]
  exact ih (i + 1) (by omega)
end Go.Proofs.Ytkiloimggmpggaa.L
namespace Go.Proofs.Ytkiloimggmpggaa.Law
open Go.RowKit Go.Proofs.Ytkiloimggmpggaa Go.Proofs.Ytkiloimggmpggaa.P Go.Proofs.Ytkiloimggmpggaa.L Go.Proofs.YtkiloimggmpggaaW.PrintWords Go.Proofs.YtkiloimggmpggaaW.PrintLast Go.Proofs.YtkiloimggmpggaaW.PrintMore
set_option linter.unusedVariables false
theorem bothCondenseSteps (t : List (List Int)) (a1 : Int) (hft : fewRows t) : ∃ (r : List (List S25)) (b : Bool), fewQ r ∧ Ev (fun k => spec_CondenseSteps.f k t a1) (r, b) ∧ Ev (fun k => impl_CondenseSteps.f k t a1) (r, b) := by
 unfold spec_CondenseSteps.f impl_CondenseSteps.f impl_isCondensed.f
 have hg := weTable_ev t hft
 have f0 : fewQ [] := ⟨by simp, fun r hr => by simp at hr⟩
 cases hb : weightsB t with
 | false =>
  have e2 : impl_isWeights.f t = some false := by unfold impl_isWeights.f; rw [hb]
  exact ⟨[], false, f0, Ev.bind (hb ▸ hg) (Ev.ite_neg (by simp) (Ev.now _)), Ev.some_bind (a := false) (by rw [e2]; rfl) (Ev.ite_neg (by simp) (Ev.now _))⟩
 | true =>
  have e2 : impl_isWeights.f t = some true := by unfold impl_isWeights.f; rw [hb]
  rw [e2]
  have e3 : (Option.bind (some true) fun t => if t = true then (impl_within.f a1 0 3).bind (fun b => some b) else some false) = some (inB a1 0 3) := by
   show (if true = true then (impl_within.f a1 0 3).bind (fun b => some b) else some false) = _
   rw [if_pos rfl, show impl_within.f a1 0 3 = some (inB a1 0 3) from rfl]; rfl
  cases hi : inB a1 0 3 with
  | false =>
   rw [hi] at e3
   exact ⟨[], false, f0, Ev.bind (hb ▸ hg) (Ev.ite_pos rfl (Ev.some_bind (a := false) (by rw [l1In_eq, hi]) (Ev.ite_neg (by simp) (Ev.now _)))), Ev.some_bind e3 (Ev.ite_neg (by simp) (Ev.now _))⟩
  | true =>
   have hi2 := (inB_iff _ _ _).1 hi
   have h4 := (weights_ok hb).1
   obtain ⟨hl, _⟩ := tabs_last t a1 hb
   have hs := tabs_shape t a1 hb
   have ok : cdOk t a1 := ⟨hb, hi2.1, hi2.2⟩
   have es : spec_weSteps.f t a1 = some ((tabsQ t a1).map flat) := by unfold spec_weSteps.f; rw [if_pos ok]
   have ei : impl_condense.f t a1 = some ((tabsQ t a1).map tS) := by unfold impl_condense.f; rw [if_pos ok]
   rw [hi] at e3
   refine ⟨(tabsQ t a1).map flat, true, ⟨by rw [List.length_map]; omega, fun r hr => ?_⟩, Ev.bind (hb ▸ hg) (Ev.ite_pos rfl (Ev.some_bind (a := true) (by rw [l1In_eq, hi]) (Ev.ite_pos rfl (Ev.some_bind es (Ev.now _))))), Ev.some_bind e3 (Ev.ite_pos rfl (Ev.some_bind ei ?_))⟩
   ·simp only [List.mem_map] at hr
    obtain ⟨T, hT, rfl⟩ := hr
    obtain ⟨m, hm, e1, e2⟩ := hs T hT
    have := flat_few hm e1 e2
    omega
   ·have := steps_run (tabsQ t a1) (by omega) hs (tabsQ t a1).length 0 (by omega)
    rw [List.length_map]
    exact this
theorem FnExactCondenseSteps (A : Option Addr) (cap : Nat) (l : List (List Int)) {W0 : World} (h : RowsIn W0 A l.length cap l) (a1 : Int) (_h1 : (Lit.int .i64 a1).wf = true) (W : World) (hW : W = W0) :
  Calls Try.prog 5 #[.slice A l.length cap, .int .i64 a1] W fun e w' => e = .returned (.bool true) ∧ Below W.heap.size W w' := by
 subst hW
 refine lawCondenseSteps A cap l a1 W h fun hf => ?_
 obtain ⟨r, b, hr, e1, e2⟩ := bothCondenseSteps l a1 hf
 obtain ⟨k1, h1⟩ := e1.rounds
 obtain ⟨k2, h2⟩ := e2.rounds
 refine ⟨r, b, hr, fun W' A' c' hC hc => ?_, fun W' A' c' hC hc => ?_⟩
 ·refine (spec_CondenseSteps.calls k1 A' c' l a1 r b W' hC hc h1).mono ?_
  rintro e w1 ⟨v, rfl, hN, hb⟩
  obtain ⟨A1, c1, rfl, hl1, hF⟩ := Kd.N_V hN (base' := 0)
  exact ⟨A1, c1, rfl, hl1, Kd.F_now hF, hb⟩
 ·exact impl_CondenseSteps.calls k2 A' c' l a1 r b W' hC hc h2
end Go.Proofs.Ytkiloimggmpggaa.Law
