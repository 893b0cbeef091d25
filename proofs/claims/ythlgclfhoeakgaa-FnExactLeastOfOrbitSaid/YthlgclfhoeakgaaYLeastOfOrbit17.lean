/- Texts of one chain, in build order. -/
import Derived.Test.YthlgclfhoeakgaaYLeastOfOrbit16
namespace Go.Proofs.Ythlgclfhoeakgaa.P
open Go.RowKit Go.Proofs.YthlgclfhoeakgaaW.PrintWords Go.Proofs.YthlgclfhoeakgaaW.PrintLast Go.Proofs.YthlgclfhoeakgaaW.PrintMore
attribute [local go_sem] max2_int min2_int max_two min_two max_three min_three max_four min_four   -- for this text's walks alone
set_option linter.unusedVariables false
set_option linter.unusedSimpArgs false

def spec_gyOrbit.l0 : Nat → List (List Int) → List (List (List Int)) → List (List Int) → Option ((List (List (List Int))) × Bool)
 | 0, _, _, _ => none
 | k + 1, x0, x4, x5 => (spec_heSame.f k x5 x0).bind fun t232 => (if t232 = true then (some (x4, true)) else (if (x4.length : Int) = 1000 then (some (([] : List (List (List Int))), false)) else (if x4.length < 5864062014805 then ((spec_gyNext.f x5).bind fun t236 => (spec_gyOrbit.l0 k x0 (x4 ++ [x5]) t236)) else (none))))
def spec_gyOrbit.f (k : Nat) (l0 : List (List Int)) : Option ((List (List (List Int))) × Bool) := (spec_gyOwn.f k l0).bind fun t223 => ((spec_gyNext.f l0).bind fun t229 => (spec_gyOrbit.l0 k l0 (([t223] : List (List (List Int)))) t229))
set_option maxHeartbeats 8000000 in
set_option maxRecDepth 100000 in
theorem spec_gyOrbit.calls (k : Nat) (A0 : Option Addr) (c0 : Nat) (l0 : List (List Int)) (r1 : List (List (List Int))) (r2 : Bool) (w : World) (hr0 : Kd.C (Kd.slice 3 (Kd.int .i64)) w A0 l0.length l0) (hc0 : l0.length ≤ c0) (h : spec_gyOrbit.f k l0 = some (r1, r2)) :
  Calls Try.prog 40 #[.slice A0 l0.length c0] w fun e w' => ∃ v0_ : Value, e = .returned (.tuple #[v0_, .bool r2]) ∧ Kd.N (Kd.slice 34 (Kd.slice 3 (Kd.int .i64))) 22 w' w.heap.size (fun k_ => (w.heap.size ≤ k_)) v0_ r1 ∧ Below w.heap.size w w' := by
 have HR0 := Aside0.mk hr0
 have HC0 := Aside0.mk hc0
 clear hr0 hc0
 have HB := Aside0.mk (Below.refl w.heap.size w)
 have H : ((spec_gyOwn.f k l0).bind fun t223 => ((spec_gyNext.f l0).bind fun t229 => (spec_gyOrbit.l0 k l0 (([t223] : List (List (List Int)))) t229))) = some (r1, r2) := h
 clear h
 replace H := Option.bind_eq_some_iff.mp H
 obtain ⟨t223, A20, H⟩ := H
 replace H : ((spec_gyNext.f l0).bind fun t229 => (spec_gyOrbit.l0 k l0 (([t223] : List (List (List Int)))) t229)) = some (r1, r2) := H
 have A2 := Aside0.mk A20
 clear A20
 obtain ⟨y226, hy226⟩ : ∃ y_ : List (List (List Int)), y_ = (([t223] : List (List (List Int)))) := ⟨_, rfl⟩
 replace H : ((spec_gyNext.f l0).bind fun t229 => (spec_gyOrbit.l0 k l0 y226 t229)) = some (r1, r2) := by first | (rw [hy226]; with_reducible exact H) | (have H2_ := (Option.bind_some _ _).symm.trans H; rw [hy226]; with_reducible exact H2_) | (have H2_ := (Option.bind_some _ _).symm.trans H; with_reducible exact H2_) | with_reducible exact H | (rw [hy226]; exact H) | exact H
 have Ny226 := Aside0.mk hy226
 clear hy226
 replace H := Option.bind_eq_some_iff.mp H
 obtain ⟨t229, A30, H⟩ := H
 replace H : (spec_gyOrbit.l0 k l0 y226 t229) = some (r1, r2) := H
 have A3 := Aside0.mk A30
 clear A30
 have H' := Aside0.mk H
 clear H
 go_enter Try.func40, Try.ntmps40
 go_wp2_with (first | ((with_reducible refine gate_callee (f := 57) rfl ?_); refine goesL_ (some 7) rfl rfl Try.func57 (by kernel_rfl) rfl #[.slice A0 l0.length c0] rfl (by (try simp only [List.map_toArray, List.map_cons, List.map_nil]); first | done | rfl | (simp only [List.length_drop, List.length_take]; rfl)) ?_; (with_reducible refine (spec_gyOwn.calls k _ _ l0 t223 _ ?side1 ?side2 A2.out).mono ?_); (case side1 => repeat (first | exact HR0.out | (with_reducible refine Kd.C_alloc ?_ _) | (with_reducible refine Kd.C_drewN ?_ _) | (with_reducible refine Kd.C_drew ?_))); (case side2 => exact HC0.out); rintro e w4 ⟨v224, rfl, ho0, hb⟩; refine ⟨_, rfl, ?_⟩; have n0_ := Aside0.mk (Kd.N_lower (Kd.N_mono (ok' := fun k_ => (w.heap.size ≤ k_)) (Kd.S_N (Kd.S_bound ho0)) (fun k_ hk_ => (Nat.le_trans (below_size (by repeat (first | (with_reducible first | exact HB.out | apply below_alloc | apply pw_below_drewN | apply below_drew1) | exact HB.out))) hk_.2.1))) (below_size (by repeat (first | (with_reducible first | exact HB.out | apply below_alloc | apply pw_below_drewN | apply below_drew1) | exact HB.out)))); have n1_ := Aside0.mk (below_step (by repeat (first | (with_reducible first | exact HB.out | apply below_alloc | apply pw_below_drewN | apply below_drew1) | exact HB.out)) hb); clear HB; have HO225 := n0_; have HB := n1_; clear n0_ n1_; (try clear hb); (try clear hb2); (try clear hk); (try clear hi); (try clear ho0); obtain ⟨Ao5, co5, eo5⟩ := Kd.N_slice HO225.out; subst eo5) | ((with_reducible refine gate_dst (N := 8) rfl ?_); refine Kd.N_lit (Kd.slice 34 (Kd.slice 3 (Kd.int .i64))) _ 22 ?hg (N' := 8) ?hd (xs := ([t223] : List (List (List Int)))) (inner := [.slice Ao5 t223.length co5]) (ok := (fun k_ => (w.heap.size ≤ k_))) (okp := (fun k_ => (w.heap.size ≤ k_))) ?hr ?hp (fun _ hk => hk) ((show ∀ k_, w4.heap.size ≤ k_ → (fun k_ => (w.heap.size ≤ k_)) k_ from fun k_ hk => (Nat.le_trans (below_size (by repeat (first | (with_reducible first | exact HB.out | apply below_alloc | apply pw_below_drewN | apply below_drew1) | exact HB.out))) hk)) _ (Nat.le_refl _)) (Below.refl _ _) (Nat.le_refl _) (by simp) ?_; (case hd => rfl); (case hg => rfl); (case hr => first | (go_simp; done) | (go_simp; rfl)); (case hp => exact (Reps.one (show Kd.FK (Kd.slice 34 (Kd.slice 3 (Kd.int .i64))) _ _ t223 [.slice Ao5 t223.length co5] from (Kd.FK_slice_mk (Kd.N_reads' (Kd.N_mono (ok' := (fun k_ => (w.heap.size ≤ k_))) (HO225.out) (fun k_ hk => hk))).2.1 (Kd.N_F (Kd.N_mono (ok' := (fun k_ => (w.heap.size ≤ k_))) (HO225.out) (fun k_ hk => hk))))) (Reps.none _ _))); intro v227 w6 ho7 hb hg_ hnew_; clear hg_ hnew_; (first | rw [← Ny226.out] at ho7 | (simp only [Int.reduceToNat] at ho7; rw [← Ny226.out] at ho7)); have n0_ := Aside0.mk (Kd.N_lower ho7 (below_size (by repeat (first | (with_reducible first | exact HB.out | apply below_alloc | apply pw_below_drewN | apply below_drew1) | exact HB.out)))); have n1_ := Aside0.mk (below_step (by repeat (first | (with_reducible first | exact HB.out | apply below_alloc | apply pw_below_drewN | apply below_drew1) | exact HB.out)) hb); clear HB; clear HO225; have HO228 := n0_; have HB := n1_; clear n0_ n1_; clear hb ho7) | ((with_reducible refine gate_callee (f := 58) rfl ?_); refine goesL_ (some 10) rfl rfl Try.func58 (by kernel_rfl) rfl #[.slice A0 l0.length c0] rfl (by (try simp only [List.map_toArray, List.map_cons, List.map_nil]); first | done | rfl | (simp only [List.length_drop, List.length_take]; rfl)) ?_; (with_reducible refine (spec_gyNext.calls _ _ l0 t229 _ ?side1 ?side2 A3.out).mono ?_); (case side1 => repeat (first | exact (Kd.C_below HR0.out HB.out) | (with_reducible refine Kd.C_alloc ?_ _) | (with_reducible refine Kd.C_drewN ?_ _) | (with_reducible refine Kd.C_drew ?_))); (case side2 => exact HC0.out); rintro e w8 ⟨v230, rfl, ho0, hb⟩; refine ⟨_, rfl, ?_⟩; have n0_ := Aside0.mk (Kd.N_elder' (by (with_reducible repeat (first | apply Kd.N_alloc | apply Kd.N_drewN | apply Kd.N_drew)); exact HO228.out) (by first | exact Kd.N_base ho0 | exact Kd.S_base ho0) hb); have n1_ := Aside0.mk (Kd.N_lower (Kd.N_mono (ok' := fun k_ => (w.heap.size ≤ k_) ∧ some k_ ≠ (v227 : Value).ownBlock) (Kd.S_N (Kd.S_bound ho0)) (fun k_ hk_ => ⟨(Nat.le_trans (below_size (by repeat (first | (with_reducible first | exact HB.out | apply below_alloc | apply pw_below_drewN | apply below_drew1) | exact HB.out))) hk_.2.1), (Kd.fresh' (Kd.N_lt (by (with_reducible repeat (first | apply Kd.N_alloc | apply Kd.N_drewN | apply Kd.N_drew)); exact HO228.out)) k_ hk_.2.1)⟩)) (below_size (by repeat (first | (with_reducible first | exact HB.out | apply below_alloc | apply pw_below_drewN | apply below_drew1) | exact HB.out)))); have n2_ := Aside0.mk (below_step (by repeat (first | (with_reducible first | exact HB.out | apply below_alloc | apply pw_below_drewN | apply below_drew1) | exact HB.out)) hb); clear HO228; clear HB; have HO228 := n0_; have HO231 := n1_; have HB := n2_; clear n0_ n1_ n2_; (try clear hb); (try clear hb2); (try clear hk); (try clear hi); (try clear ho0)))
 go_loopg [4, 5] k (fun kq v4 v5 w' => ∃ (x4_1 : List (List (List Int))) (x5_1 : List (List Int)), Aside0 (spec_gyOrbit.l0 kq l0 x4_1 x5_1 = some (r1, r2)) ∧ Aside0 (kq ≤ k) ∧ Aside0 (Kd.N (Kd.slice 34 (Kd.slice 3 (Kd.int .i64))) 22 w' w.heap.size (fun k_ => (w.heap.size ≤ k_) ∧ some k_ ≠ (v5 : Value).ownBlock) v4 x4_1) ∧ Aside0 (Kd.N (Kd.slice 3 (Kd.int .i64)) 34 w' w.heap.size (fun k_ => (w.heap.size ≤ k_) ∧ some k_ ≠ (v4 : Value).ownBlock) v5 x5_1) ∧ Aside0 (Below w.heap.size w w'))
 case atStart => exact ⟨(y226), (t229), H', ⟨Nat.le_refl _⟩, ⟨by (with_reducible repeat (first | apply Kd.N_alloc | apply Kd.N_drewN | apply Kd.N_drew)); exact HO228.out⟩, ⟨by (with_reducible repeat (first | apply Kd.N_alloc | apply Kd.N_drewN | apply Kd.N_drew)); exact HO231.out⟩, ⟨by repeat (first | (with_reducible first | exact HB.out | apply below_alloc | apply pw_below_drewN | apply below_drew1) | exact HB.out)⟩⟩
 case round =>
  clear H'
  try clear p2
  try clear c4
  try clear c5
  obtain ⟨x4_1, x5_1, HA, HK1, HO_4, HO_5, HB⟩ := hrel
  cases gk with
  | zero => exact absurd HA.out (by simp [spec_gyOrbit.l0])
  | succ k1 =>
   have H := HA.out
   clear HA
   simp only [spec_gyOrbit.l0] at H
   replace H := Option.bind_eq_some_iff.mp H
   obtain ⟨t232, A90, H⟩ := H
   replace H : (if t232 = true then (some (x4_1, true)) else (if (x4_1.length : Int) = 1000 then (some (([] : List (List (List Int))), false)) else (if x4_1.length < 5864062014805 then ((spec_gyNext.f x5_1).bind fun t236 => (spec_gyOrbit.l0 k1 l0 (x4_1 ++ [x5_1]) t236)) else (none)))) = some (r1, r2) := H
   have A9 := Aside0.mk A90
   clear A90
   by_cases c10 : t232 = true
   ·subst c10
    have H1 : (some (x4_1, true)) = some (r1, r2) := by rw [if_pos rfl] at H; exact H
    clear H
    have H := H1
    clear H1
    simp only [Option.some.injEq, Prod.mk.injEq] at H
    obtain ⟨rfl, rfl⟩ := H
    obtain ⟨Ao11, co11, eo11⟩ := Kd.N_slice HO_5.out
    subst eo11
    go_wp2_with (first | ((with_reducible refine gate_callee (f := 47) rfl ?_); refine goesL_ (some 13) rfl rfl Try.func47 (by kernel_rfl) rfl #[.slice Ao11 x5_1.length co11, .slice A0 l0.length c0] rfl (by (try simp only [List.map_toArray, List.map_cons, List.map_nil]); first | done | rfl | (simp only [List.length_drop, List.length_take]; rfl)) ?_; (with_reducible refine (spec_heSame.calls k1 _ _ x5_1 _ _ l0 true _ ?side1 ?side2 ?side3 ?side4 A9.out).mono ?_); (case side1 => repeat (first | exact (Kd.N_reads' HO_5.out).2.2 | (with_reducible refine Kd.C_alloc ?_ _) | (with_reducible refine Kd.C_drewN ?_ _) | (with_reducible refine Kd.C_drew ?_))); (case side2 => exact (Kd.N_reads' HO_5.out).2.1); (case side3 => repeat (first | exact (Kd.C_below HR0.out HB.out) | (with_reducible refine Kd.C_alloc ?_ _) | (with_reducible refine Kd.C_drewN ?_ _) | (with_reducible refine Kd.C_drew ?_))); (case side4 => exact HC0.out); rintro e w' ⟨rfl, ⟨nd, rfl⟩⟩; refine ⟨_, rfl, ?_⟩))
    go_ret2
    exact ⟨_, by first | rfl | (simp [errW_none, errW_some] <;> rfl) | (simp [*, errW_none, errW_some] <;> rfl), by (with_reducible repeat (first | apply Kd.N_alloc | apply Kd.N_drewN | apply Kd.N_drew)); exact Kd.N_mono HO_4.out (fun _ hk => hk.1), by repeat (first | (with_reducible first | exact HB.out | apply below_alloc | apply pw_below_drewN | apply below_drew1) | exact HB.out)⟩
   ·replace c10 := Bool.eq_false_iff.mpr c10
    subst c10
    have H1 : (if (x4_1.length : Int) = 1000 then (some (([] : List (List (List Int))), false)) else (if x4_1.length < 5864062014805 then ((spec_gyNext.f x5_1).bind fun t236 => (spec_gyOrbit.l0 k1 l0 (x4_1 ++ [x5_1]) t236)) else (none))) = some (r1, r2) := by rw [if_neg (show ¬ (false = true) by decide)] at H; exact H
    clear H
    have H := H1
    clear H1
    by_cases c12 : (x4_1.length : Int) = 1000
    ·rw [if_pos c12] at H
     have c12b0 : ((x4_1.length : Int) == 1000) = true := beq_iff_eq.mpr c12
     have c12b1 : ((x4_1.length : Int) != 1000) = false := bne_eq_false_iff_eq.mpr c12
     clear c12
     simp only [Option.some.injEq, Prod.mk.injEq] at H
     obtain ⟨rfl, rfl⟩ := H
     obtain ⟨Ao13, co13, eo13⟩ := Kd.N_slice HO_5.out
     subst eo13
     go_wp2_with (first | ((with_reducible refine gate_callee (f := 47) rfl ?_); refine goesL_ (some 13) rfl rfl Try.func47 (by kernel_rfl) rfl #[.slice Ao13 x5_1.length co13, .slice A0 l0.length c0] rfl (by (try simp only [List.map_toArray, List.map_cons, List.map_nil]); first | done | rfl | (simp only [List.length_drop, List.length_take]; rfl)) ?_; (with_reducible refine (spec_heSame.calls k1 _ _ x5_1 _ _ l0 false _ ?side1 ?side2 ?side3 ?side4 A9.out).mono ?_); (case side1 => repeat (first | exact (Kd.N_reads' HO_5.out).2.2 | (with_reducible refine Kd.C_alloc ?_ _) | (with_reducible refine Kd.C_drewN ?_ _) | (with_reducible refine Kd.C_drew ?_))); (case side2 => exact (Kd.N_reads' HO_5.out).2.1); (case side3 => repeat (first | exact (Kd.C_below HR0.out HB.out) | (with_reducible refine Kd.C_alloc ?_ _) | (with_reducible refine Kd.C_drewN ?_ _) | (with_reducible refine Kd.C_drew ?_))); (case side4 => exact HC0.out); rintro e w' ⟨rfl, ⟨nd, rfl⟩⟩; refine ⟨_, rfl, ?_⟩; obtain ⟨Ao14, co14, eo14⟩ := Kd.N_slice HO_4.out; subst eo14))
     go_ret2
     exact ⟨_, by first | rfl | (simp [errW_none, errW_some] <;> rfl) | (simp [*, errW_none, errW_some] <;> rfl), by first | exact Kd.R_nil _ _ _ _ _ | exact Kd.N_nil _ _ _ _ _ | exact Kd.V_nil _ _ _ _ _ | exact Kd.Q_nil _ _ _ _ _ | exact Kd.S_nil _ _ _ _ _, by repeat (first | (with_reducible first | exact HB.out | apply below_alloc | apply pw_below_drewN | apply below_drew1) | exact HB.out)⟩
    ·rw [if_neg c12] at H
     have c12b0 : ((x4_1.length : Int) == 1000) = false := beq_eq_false_iff_ne.mpr c12
     have c12b1 : ((x4_1.length : Int) != 1000) = true := bne_iff_ne.mpr c12
     by_cases c15 : x4_1.length < 5864062014805
     ·rw [if_pos c15] at H
      have LMc15 := Aside0.mk c15
      clear c15
      obtain ⟨y233, hy233⟩ : ∃ y_ : List (List (List Int)), y_ = (x4_1 ++ [x5_1]) := ⟨_, rfl⟩
      replace H : ((spec_gyNext.f x5_1).bind fun t236 => (spec_gyOrbit.l0 k1 l0 y233 t236)) = some (r1, r2) := by first | (rw [hy233]; with_reducible exact H) | (have H2_ := (Option.bind_some _ _).symm.trans H; rw [hy233]; with_reducible exact H2_) | (have H2_ := (Option.bind_some _ _).symm.trans H; with_reducible exact H2_) | with_reducible exact H | (rw [hy233]; exact H) | exact H
      have Ny233 := Aside0.mk hy233
      clear hy233
      replace H := Option.bind_eq_some_iff.mp H
      obtain ⟨t236, A160, H⟩ := H
      replace H : (spec_gyOrbit.l0 k1 l0 y233 t236) = some (r1, r2) := H
      have A16 := Aside0.mk A160
      clear A160
      have H' := Aside0.mk H
      clear H
      obtain ⟨Ao17, co17, eo17⟩ := Kd.N_slice HO_5.out
      subst eo17
      go_wp2_with (first | ((with_reducible refine gate_callee (f := 47) rfl ?_); refine goesL_ (some 13) rfl rfl Try.func47 (by kernel_rfl) rfl #[.slice Ao17 x5_1.length co17, .slice A0 l0.length c0] rfl (by (try simp only [List.map_toArray, List.map_cons, List.map_nil]); first | done | rfl | (simp only [List.length_drop, List.length_take]; rfl)) ?_; (with_reducible refine (spec_heSame.calls k1 _ _ x5_1 _ _ l0 false _ ?side1 ?side2 ?side3 ?side4 A9.out).mono ?_); (case side1 => repeat (first | exact (Kd.N_reads' HO_5.out).2.2 | (with_reducible refine Kd.C_alloc ?_ _) | (with_reducible refine Kd.C_drewN ?_ _) | (with_reducible refine Kd.C_drew ?_))); (case side2 => exact (Kd.N_reads' HO_5.out).2.1); (case side3 => repeat (first | exact (Kd.C_below HR0.out HB.out) | (with_reducible refine Kd.C_alloc ?_ _) | (with_reducible refine Kd.C_drewN ?_ _) | (with_reducible refine Kd.C_drew ?_))); (case side4 => exact HC0.out); rintro e w' ⟨rfl, ⟨nd, rfl⟩⟩; refine ⟨_, rfl, ?_⟩; obtain ⟨Ao18, co18, eo18⟩ := Kd.N_slice HO_4.out; subst eo18) | ((with_reducible refine gate_builtin (b := .append) (xs := #[.tmp 20, .tmp 22]) rfl ?_); at_builtin; refine Kd.N_append (Kd.slice 34 (Kd.slice 3 (Kd.int .i64))) (w0 := w) w.heap.size rfl (.tmp 20) (.tmp 22) 39 22 (.slice none 0 0) 24 rfl Try.underlying39 info22 rfl (by decide) (by omega) (.slice Ao18 x4_1.length co18) x4_1 x5_1 [.slice Ao17 x5_1.length co17] (fun k_ => (w.heap.size ≤ k_)) (fun k_ => ((fun k_ => (w.heap.size ≤ k_))) k_ ∧ some k_ ≠ (.slice Ao18 x4_1.length co18 : Value).ownBlock) rfl rfl ?aP (fun _ hk => hk) ?aF ?aO ?aB ?aS ?aL ?_; (case aP => exact (Kd.FK_slice_mk (Kd.N_reads' (Kd.N_mono (ok' := (fun k_ => ((fun k_ => (w.heap.size ≤ k_))) k_ ∧ some k_ ≠ (.slice Ao18 x4_1.length co18 : Value).ownBlock)) (HO_5.out) (fun k_ hk => ⟨hk.1, hk.2⟩))).2.1 (Kd.N_F (Kd.N_mono (ok' := (fun k_ => ((fun k_ => (w.heap.size ≤ k_))) k_ ∧ some k_ ≠ (.slice Ao18 x4_1.length co18 : Value).ownBlock)) (HO_5.out) (fun k_ hk => ⟨hk.1, hk.2⟩))))); (case aB => exact (by repeat (first | (with_reducible first | exact HB.out | apply below_alloc | apply pw_below_drewN | apply below_drew1) | exact HB.out))); (case aF => exact (fun k_ hk => (Nat.le_trans (below_size (by repeat (first | (with_reducible first | exact HB.out | apply below_alloc | apply pw_below_drewN | apply below_drew1) | exact HB.out))) hk))); (case aO => exact (by (with_reducible repeat (first | apply Kd.N_alloc | apply Kd.N_drewN | apply Kd.N_drew)); exact Kd.N_mono HO_4.out (fun _ hk => hk.1))); (case aS => exact (below_size (by repeat (first | (with_reducible first | exact HB.out | apply below_alloc | apply pw_below_drewN | apply below_drew1) | exact HB.out)))); (case aL => have := LMc15.out; omega); intro v234 w19 ho hb hg hat; rw [← Ny233.out] at ho; have n0_ := Aside0.mk (hb); have n1_ := Aside0.mk (ho); have n5_ := Aside0.mk (show Kd.N (Kd.slice 3 (Kd.int .i64)) 34 w19 w.heap.size (fun k_ => (w.heap.size ≤ k_) ∧ some k_ ≠ (.slice Ao18 x4_1.length co18 : Value).ownBlock) (.slice Ao17 x5_1.length co17) x5_1 from Kd.N_grown (ok := fun k_ => (w.heap.size ≤ k_) ∧ some k_ ≠ (.slice Ao18 x4_1.length co18 : Value).ownBlock) (by (with_reducible repeat (first | apply Kd.N_alloc | apply Kd.N_drewN | apply Kd.N_drew)); exact HO_5.out) hg (fun _ hk => hk.2)); clear HB; clear HO_4; clear HO_5; have HO_5 := n5_; clear n5_; have HB := n0_; have HO235 := n1_; clear n0_ n1_; clear ho hb hg hat) | ((with_reducible refine gate_callee (f := 58) rfl ?_); refine goesL_ (some 16) rfl rfl Try.func58 (by kernel_rfl) rfl #[.slice Ao17 x5_1.length co17] rfl (by (try simp only [List.map_toArray, List.map_cons, List.map_nil]); first | done | rfl | (simp only [List.length_drop, List.length_take]; rfl)) ?_; (with_reducible refine (spec_gyNext.calls _ _ x5_1 t236 _ ?side1 ?side2 A16.out).mono ?_); (case side1 => repeat (first | exact (Kd.N_reads' HO_5.out).2.2 | (with_reducible refine Kd.C_alloc ?_ _) | (with_reducible refine Kd.C_drewN ?_ _) | (with_reducible refine Kd.C_drew ?_))); (case side2 => exact (Kd.N_reads' HO_5.out).2.1); rintro e w20 ⟨v237, rfl, ho0, hb⟩; refine ⟨_, rfl, ?_⟩; have n0_ := Aside0.mk (Kd.N_elder' (by (with_reducible repeat (first | apply Kd.N_alloc | apply Kd.N_drewN | apply Kd.N_drew)); exact HO235.out) (by first | exact Kd.N_base ho0 | exact Kd.S_base ho0) hb); have n1_ := Aside0.mk (Kd.N_lower (Kd.N_mono (ok' := fun k_ => (w.heap.size ≤ k_) ∧ some k_ ≠ (v234 : Value).ownBlock) (Kd.S_N (Kd.S_bound ho0)) (fun k_ hk_ => ⟨(Nat.le_trans (below_size (by repeat (first | (with_reducible first | exact HB.out | apply below_alloc | apply pw_below_drewN | apply below_drew1) | exact HB.out))) hk_.2.1), (Kd.fresh' (Kd.N_lt (by (with_reducible repeat (first | apply Kd.N_alloc | apply Kd.N_drewN | apply Kd.N_drew)); exact HO235.out)) k_ hk_.2.1)⟩)) (below_size (by repeat (first | (with_reducible first | exact HB.out | apply below_alloc | apply pw_below_drewN | apply below_drew1) | exact HB.out)))); have n2_ := Aside0.mk (below_step (by repeat (first | (with_reducible first | exact HB.out | apply below_alloc | apply pw_below_drewN | apply below_drew1) | exact HB.out)) hb); clear HO235; clear HB; have HO235 := n0_; have HO238 := n1_; have HB := n2_; clear n0_ n1_ n2_; (try clear hb); (try clear hb2); (try clear hk); (try clear hi); (try clear ho0)))
      go_roundg k1
      case measure => have := HK1.out; omega
      case rel => exact ⟨(y233), (t236), H', ⟨by have := HK1.out; omega⟩, ⟨by (with_reducible repeat (first | apply Kd.N_alloc | apply Kd.N_drewN | apply Kd.N_drew)); exact HO235.out⟩, ⟨by (with_reducible repeat (first | apply Kd.N_alloc | apply Kd.N_drewN | apply Kd.N_drew)); exact HO238.out⟩, ⟨by repeat (first | (with_reducible first | exact HB.out | apply below_alloc | apply pw_below_drewN | apply below_drew1) | exact HB.out)⟩⟩
     ·rw [if_neg c15] at H
      exact absurd H (by simp)

end Go.Proofs.Ythlgclfhoeakgaa.P

namespace Go.Proofs.Ythlgclfhoeakgaa.P
open Go.RowKit Go.Proofs.YthlgclfhoeakgaaW.PrintWords Go.Proofs.YthlgclfhoeakgaaW.PrintLast Go.Proofs.YthlgclfhoeakgaaW.PrintMore
attribute [local go_sem] max2_int min2_int max_two min_two max_three min_three max_four min_four   -- for this text's walks alone
set_option linter.unusedVariables false
set_option linter.unusedSimpArgs false

def spec_GyrationOrbit.f (k : Nat) (l0 : List (List Int)) : Option ((List (List (List Int))) × Bool) := (spec_sgGood.f k l0).bind fun t239 => (if t239 = true then ((spec_gyOrbit.f k l0).bind fun bt240 => (some (bt240.1, bt240.2))) else (some (([] : List (List (List Int))), false)))
set_option maxHeartbeats 8000000 in
set_option maxRecDepth 100000 in
theorem spec_GyrationOrbit.calls (k : Nat) (A0 : Option Addr) (c0 : Nat) (l0 : List (List Int)) (r1 : List (List (List Int))) (r2 : Bool) (w : World) (hr0 : Kd.C (Kd.slice 3 (Kd.int .i64)) w A0 l0.length l0) (hc0 : l0.length ≤ c0) (h : spec_GyrationOrbit.f k l0 = some (r1, r2)) :
  Calls Try.prog 24 #[.slice A0 l0.length c0] w fun e w' => ∃ v0_ : Value, e = .returned (.tuple #[v0_, .bool r2]) ∧ Kd.N (Kd.slice 34 (Kd.slice 3 (Kd.int .i64))) 22 w' w.heap.size (fun k_ => (w.heap.size ≤ k_)) v0_ r1 ∧ Below w.heap.size w w' := by
 have HR0 := Aside0.mk hr0
 have HC0 := Aside0.mk hc0
 clear hr0 hc0
 have HB := Aside0.mk (Below.refl w.heap.size w)
 have H : ((spec_sgGood.f k l0).bind fun t239 => (if t239 = true then ((spec_gyOrbit.f k l0).bind fun bt240 => (some (bt240.1, bt240.2))) else (some (([] : List (List (List Int))), false)))) = some (r1, r2) := h
 clear h
 replace H := Option.bind_eq_some_iff.mp H
 obtain ⟨t239, A20, H⟩ := H
 replace H : (if t239 = true then ((spec_gyOrbit.f k l0).bind fun bt240 => (some (bt240.1, bt240.2))) else (some (([] : List (List (List Int))), false))) = some (r1, r2) := H
 have A2 := Aside0.mk A20
 clear A20
 by_cases c3 : t239 = true
 ·subst c3
  have H1 : ((spec_gyOrbit.f k l0).bind fun bt240 => (some (bt240.1, bt240.2))) = some (r1, r2) := by rw [if_pos rfl] at H; exact H
  clear H
  have H := H1
  clear H1
  replace H := Option.bind_eq_some_iff.mp H
  obtain ⟨⟨t240, t243⟩, A40, H⟩ := H
  replace H : (some (t240, t243)) = some (r1, r2) := H
  have A4 := Aside0.mk A40
  clear A40
  simp only [Option.some.injEq, Prod.mk.injEq] at H
  obtain ⟨rfl, rfl⟩ := H
  go_enter Try.func24, Try.ntmps24
  go_wp2_with (first | ((with_reducible refine gate_callee (f := 39) rfl ?_); refine goesL_ (some 5) rfl rfl Try.func39 (by kernel_rfl) rfl #[.slice A0 l0.length c0] rfl (by (try simp only [List.map_toArray, List.map_cons, List.map_nil]); first | done | rfl | (simp only [List.length_drop, List.length_take]; rfl)) ?_; (with_reducible refine (spec_sgGood.calls k _ _ l0 true _ ?side1 ?side2 A2.out).mono ?_); (case side1 => repeat (first | exact HR0.out | (with_reducible refine Kd.C_alloc ?_ _) | (with_reducible refine Kd.C_drewN ?_ _) | (with_reducible refine Kd.C_drew ?_))); (case side2 => exact HC0.out); rintro e w5 ⟨rfl, hb⟩; refine ⟨_, rfl, ?_⟩; have n0_ := Aside0.mk (below_step (by repeat (first | (with_reducible first | exact HB.out | apply below_alloc | apply pw_below_drewN | apply below_drew1) | exact HB.out)) hb); clear HB; have HB := n0_; clear n0_; (try clear hb); (try clear hb2); (try clear hk); (try clear hi)) | ((with_reducible refine gate_callee (f := 40) rfl ?_); refine goesL_ (some 8) rfl rfl Try.func40 (by kernel_rfl) rfl #[.slice A0 l0.length c0] rfl (by (try simp only [List.map_toArray, List.map_cons, List.map_nil]); first | done | rfl | (simp only [List.length_drop, List.length_take]; rfl)) ?_; (with_reducible refine (spec_gyOrbit.calls k _ _ l0 t240 t243 _ ?side1 ?side2 A4.out).mono ?_); (case side1 => repeat (first | exact (Kd.C_below HR0.out HB.out) | (with_reducible refine Kd.C_alloc ?_ _) | (with_reducible refine Kd.C_drewN ?_ _) | (with_reducible refine Kd.C_drew ?_))); (case side2 => exact HC0.out); rintro e w6 ⟨v241, rfl, ho0, hb⟩; refine ⟨_, rfl, ?_⟩; have n0_ := Aside0.mk (Kd.N_lower (Kd.N_mono (ok' := fun k_ => (w.heap.size ≤ k_)) ho0 (fun k_ hk_ => (Nat.le_trans (below_size (by repeat (first | (with_reducible first | exact HB.out | apply below_alloc | apply pw_below_drewN | apply below_drew1) | exact HB.out))) hk_))) (below_size (by repeat (first | (with_reducible first | exact HB.out | apply below_alloc | apply pw_below_drewN | apply below_drew1) | exact HB.out)))); have n1_ := Aside0.mk (below_step (by repeat (first | (with_reducible first | exact HB.out | apply below_alloc | apply pw_below_drewN | apply below_drew1) | exact HB.out)) hb); clear HB; have HO242 := n0_; have HB := n1_; clear n0_ n1_; (try clear hb); (try clear hb2); (try clear hk); (try clear hi); (try clear ho0)))
  go_ret2
  exact ⟨_, by first | rfl | (simp [errW_none, errW_some] <;> rfl) | (simp [*, errW_none, errW_some] <;> rfl), by (with_reducible repeat (first | apply Kd.N_alloc | apply Kd.N_drewN | apply Kd.N_drew)); exact HO242.out, by repeat (first | (with_reducible first | exact HB.out | apply below_alloc | apply pw_below_drewN | apply below_drew1) | exact HB.out)⟩
 ·replace c3 := Bool.eq_false_iff.mpr c3
  subst c3
  have H1 : (some (([] : List (List (List Int))), false)) = some (r1, r2) := by rw [if_neg (show ¬ (false = true) by decide)] at H; exact H
  clear H
  have H := H1
  clear H1
  simp only [Option.some.injEq, Prod.mk.injEq] at H
  obtain ⟨rfl, rfl⟩ := H
  go_enter Try.func24, Try.ntmps24
  go_wp2_with (first | ((with_reducible refine gate_callee (f := 39) rfl ?_); refine goesL_ (some 5) rfl rfl Try.func39 (by kernel_rfl) rfl #[.slice A0 l0.length c0] rfl (by (try simp only [List.map_toArray, List.map_cons, List.map_nil]); first | done | rfl | (simp only [List.length_drop, List.length_take]; rfl)) ?_; (with_reducible refine (spec_sgGood.calls k _ _ l0 false _ ?side1 ?side2 A2.out).mono ?_); (case side1 => repeat (first | exact HR0.out | (with_reducible refine Kd.C_alloc ?_ _) | (with_reducible refine Kd.C_drewN ?_ _) | (with_reducible refine Kd.C_drew ?_))); (case side2 => exact HC0.out); rintro e w7 ⟨rfl, hb⟩; refine ⟨_, rfl, ?_⟩; have n0_ := Aside0.mk (below_step (by repeat (first | (with_reducible first | exact HB.out | apply below_alloc | apply pw_below_drewN | apply below_drew1) | exact HB.out)) hb); clear HB; have HB := n0_; clear n0_; (try clear hb); (try clear hb2); (try clear hk); (try clear hi)))
  go_ret2
  exact ⟨_, by first | rfl | (simp [errW_none, errW_some] <;> rfl) | (simp [*, errW_none, errW_some] <;> rfl), by first | exact Kd.R_nil _ _ _ _ _ | exact Kd.N_nil _ _ _ _ _ | exact Kd.V_nil _ _ _ _ _ | exact Kd.Q_nil _ _ _ _ _ | exact Kd.S_nil _ _ _ _ _, by repeat (first | (with_reducible first | exact HB.out | apply below_alloc | apply pw_below_drewN | apply below_drew1) | exact HB.out)⟩

end Go.Proofs.Ythlgclfhoeakgaa.P

namespace Go.Proofs.Ythlgclfhoeakgaa.L
open Go.RowKit Go.Proofs.Ythlgclfhoeakgaa Go.Proofs.Ythlgclfhoeakgaa.P Go.Proofs.YthlgclfhoeakgaaW.PrintWords Go.Proofs.YthlgclfhoeakgaaW.PrintLast Go.Proofs.YthlgclfhoeakgaaW.PrintMore
set_option linter.unusedVariables false

theorem drop_eq_iff (a b : List Int) (i : Nat) (ha : i < a.length) (hb : i < b.length) : a.drop i = b.drop i ↔ rd a i = rd b i ∧ a.drop (i + 1) = b.drop (i + 1) := by
 rw [List.drop_eq_getElem_cons ha, List.drop_eq_getElem_cons hb, rd_at a i ha, rd_at b i hb, List.cons.injEq]
theorem spec_l1Same_l0 (a b : List Int) (hl : a.length ≤ 35184372088832) (hab : a.length = b.length) : ∀ (d i : Nat), i + d = a.length → Ev (fun k => spec_l1Same.l0 k a b a.length i) (decide (a.drop i = b.drop i)) := by
 intro d
 induction d with
 | zero =>
  intro i hi
  refine Ev.step (fun k => by rw [spec_l1Same.l0]) ?_
  rw [List.drop_eq_nil_of_le (by omega), List.drop_eq_nil_of_le (by omega)]
  exact Ev.ite_neg (by omega) (Ev.now _)
 | succ d ih =>
  intro i hi
  refine Ev.step (fun k => by rw [spec_l1Same.l0]) ?_
  refine Ev.ite_pos (by omega) (Ev.ite_pos (by omega) (Ev.ite_pos (by omega) (Ev.ite_pos (by omega) ?_)))
  have he := drop_eq_iff a b i (by omega) (by omega)
  by_cases h : rd a i = rd b i
  ·refine Ev.ite_pos h ?_
   rw [wrapS i (by omega), show decide (a.drop i = b.drop i) = decide (a.drop (i + 1) = b.drop (i + 1)) from by rw [decide_eq_decide, he]; simp [h]]
   exact ih (i + 1) (by omega)
  ·refine Ev.ite_neg h ?_
   rw [decide_eq_false (fun h2 => h (he.1 h2).1)]
   exact Ev.now _
theorem spec_l1Same_ev (a b : List Int) (hl : a.length ≤ 35184372088832) : Ev (fun k => spec_l1Same.f k a b) (decide (a = b)) := by
 unfold spec_l1Same.f
 by_cases h : (a.length : Int) = (b.length : Int)
 ·refine Ev.ite_pos h ?_
  have := spec_l1Same_l0 a b hl (by omega) a.length 0 (by omega)
  simpa using this
 ·refine Ev.ite_neg h ?_
  rw [decide_eq_false (fun e => h (by rw [e]))]
  exact Ev.now _
theorem heSame_l0 (a b : List (List Int)) (hl : fewRows a) (hab : a.length = b.length) : ∀ (d i : Nat), i + d = a.length → Ev (fun k => spec_heSame.l0 k b a a.length i) (decide (a.drop i = b.drop i)) := by
 have hl1 := hl.1
 intro d
 induction d with
 | zero =>
  intro i hi
  refine Ev.step (fun k => by rw [spec_heSame.l0]) ?_
  rw [List.drop_eq_nil_of_le (by omega), List.drop_eq_nil_of_le (by omega)]
  exact Ev.ite_neg (by omega) (Ev.now _)
 | succ d ih =>
  intro i hi
  have ha : i < a.length := by omega
  have hb : i < b.length := by omega
  refine Ev.step (fun k => by rw [spec_heSame.l0]) ?_
  refine Ev.ite_pos (by omega) (Ev.ite_pos (by omega) (Ev.ite_pos (by omega) (Ev.ite_pos (by omega) ?_)))
  rw [rd1_at a i ha, rd1_at b i hb, List.drop_eq_getElem_cons ha, List.drop_eq_getElem_cons hb]
  refine Ev.bind (spec_l1Same_ev a[i] b[i] (by have := hl.2 _ (List.getElem_mem ha); omega)) ?_
  by_cases h : a[i] = b[i]
  ·rw [decide_eq_true h, wrapS i (by omega), show decide (a[i] :: a.drop (i + 1) = b[i] :: b.drop (i + 1)) = decide (a.drop (i + 1) = b.drop (i + 1)) from by rw [decide_eq_decide, List.cons.injEq]; simp [h]]
   exact Ev.ite_pos rfl (ih (i + 1) (by omega))
  ·rw [decide_eq_false h, decide_eq_false (fun h2 => h (List.cons.inj h2).1)]
   exact Ev.ite_neg (by simp) (Ev.now _)
theorem heSame_ev (a b : List (List Int)) (hl : fewRows a) : Ev (fun k => spec_heSame.f k a b) (decide (a = b)) := by
 unfold spec_heSame.f
 by_cases h : (a.length : Int) = (b.length : Int)
 ·refine Ev.ite_pos h ?_
  have := heSame_l0 a b hl (by omega) a.length 0 (by omega)
  simpa using this
 ·refine Ev.ite_neg h ?_
  rw [decide_eq_false (fun e => h (by rw [e]))]
  exact Ev.now _
theorem own_ev_l0 (l : List (List Int)) (hf : fewRows l) : ∀ (d i : Nat), i + d = l.length → Ev (fun k => spec_gyOwn.l0 k (l.take i) l l.length i) l := by
 have hl := hf.1
 intro d
 induction d with
 | zero =>
  intro i hi
  refine Ev.step (fun k => by rw [spec_gyOwn.l0]) ?_
  rw [List.take_of_length_le (by omega)]
  exact Ev.ite_neg (by omega) (Ev.now _)
 | succ d ih =>
  intro i hi
  have hlt : i < l.length := by omega
  have hnext := ih (i + 1) (by omega)
  rw [List.take_succ_eq_append_getElem hlt] at hnext
  have hr := hf.2 _ (List.getElem_mem hlt)
  refine Ev.step (fun k => by rw [spec_gyOwn.l0]) ?_
  rw [rd1_at l i hlt, wrapS i (by omega)]
  refine Ev.ite_pos (by omega) (Ev.ite_pos (by omega) (Ev.ite_pos (by omega) ?_))
  refine Ev.some_bind (a := l[i]) (by unfold spec_l1Own.f; first | rfl | (rw [if_pos (by omega)]; rfl) | (simp; omega) | simp) ?_
  exact Ev.ite_pos (by rw [List.length_take]; omega) hnext
theorem own_ev (l : List (List Int)) (hf : fewRows l) : Ev (fun k => spec_gyOwn.f k l) l := own_ev_l0 l hf l.length 0 (by omega)
theorem copy_ev_l0 (l : List (List Int)) (hf : fewRows l) : ∀ (d i : Nat), i + d = l.length → Ev (fun k => impl_copyTable.l0 k (l.take i) l l.length i) l := by
 have hl := hf.1
 intro d
 induction d with
 | zero =>
  intro i hi
  refine Ev.step (fun k => by rw [impl_copyTable.l0]) ?_
  rw [List.take_of_length_le (by omega)]
  exact Ev.ite_neg (by omega) (Ev.now _)
 | succ d ih =>
  intro i hi
  have hlt : i < l.length := by omega
  have hnext := ih (i + 1) (by omega)
  rw [List.take_succ_eq_append_getElem hlt] at hnext
  have hr := hf.2 _ (List.getElem_mem hlt)
  refine Ev.step (fun k => by rw [impl_copyTable.l0]) ?_
  rw [rd1_at l i hlt, wrapS i (by omega)]
  refine Ev.ite_pos (by omega) (Ev.ite_pos (by omega) (Ev.ite_pos (by omega) ?_))
  refine Ev.some_bind (a := l[i]) (by unfold slices_Clone_int_int.f; rw [if_pos (by omega)]) ?_
  exact Ev.ite_pos (by rw [List.length_take]; omega) hnext
theorem copy_ev (l : List (List Int)) (hf : fewRows l) : Ev (fun k => impl_copyTable.f k l) l := copy_ev_l0 l hf l.length 0 (by omega)
theorem few_sign {l : List (List Int)} (hs : isSign l = true) : fewRows l := by
 obtain ⟨h1, h2, h3, _⟩ := isSign_facts hs
 refine ⟨by omega, fun r hr => ?_⟩
 obtain ⟨i, hi, rfl⟩ := List.getElem_of_mem hr
 have := h3 i hi
 rw [getD_at l [] i hi] at this
 omega
theorem next_eq {x : List (List Int)} (hs : isSign x = true) : spec_gyNext.f x = some (flip2 x 0 1) ∧ impl_gyrated.f x = some (flip2 x 0 1) := by
 unfold spec_gyNext.f impl_gyrated.f
 rw [if_pos hs]; exact ⟨rfl, rfl⟩
theorem orb_l0 (l : List (List Int)) : ∀ (d : Nat) (acc : List (List (List Int))) (x : List (List Int)), acc.length + d = 1000 → isSign x = true →
  ∃ r, Ev (fun k => spec_gyOrbit.l0 k l acc x) r ∧ Ev (fun k => orbP.l0 k l acc x) r ∧ (r.2 = false → r.1 = []) ∧ ((∀ T ∈ acc, isSign T = true) → r.1.length ≤ 1000 ∧ ∀ T ∈ r.1, isSign T = true) := by
 intro d
 induction d with
 | zero =>
  intro acc x ha hs
  by_cases e : x = l
  ·refine ⟨(acc, true), ?_, ?_, (fun h => by cases h), fun h => ⟨by show acc.length ≤ 1000; omega, h⟩⟩
   ·refine Ev.step (fun k => by rw [spec_gyOrbit.l0]) ?_
    refine Ev.bind (heSame_ev x l (few_sign hs)) ?_
    rw [decide_eq_true e]
    exact Ev.ite_pos rfl (Ev.now _)
   ·refine Ev.step (fun k => by rw [orbP.l0]) ?_
    exact Ev.some_bind (a := cmpT x l) rfl (Ev.ite_pos ((cmpT_zero x l).2 e) (Ev.now _))
  ·refine ⟨([], false), ?_, ?_, fun _ => rfl, fun _ => ⟨by simp, fun T h => by cases h⟩⟩
   ·refine Ev.step (fun k => by rw [spec_gyOrbit.l0]) ?_
    refine Ev.bind (heSame_ev x l (few_sign hs)) ?_
    rw [decide_eq_false e]
    exact Ev.ite_neg (by simp) (Ev.ite_pos (by omega) (Ev.now _))
   ·refine Ev.step (fun k => by rw [orbP.l0]) ?_
    exact Ev.some_bind (a := cmpT x l) rfl (Ev.ite_neg (fun h => e ((cmpT_zero x l).1 h)) (Ev.ite_pos (by omega) (Ev.now _)))
 | succ d ih =>
  intro acc x ha hs
  by_cases e : x = l
  ·refine ⟨(acc, true), ?_, ?_, (fun h => by cases h), fun h => ⟨by show acc.length ≤ 1000; omega, h⟩⟩
   ·refine Ev.step (fun k => by rw [spec_gyOrbit.l0]) ?_
    refine Ev.bind (heSame_ev x l (few_sign hs)) ?_
    rw [decide_eq_true e]
    exact Ev.ite_pos rfl (Ev.now _)
   ·refine Ev.step (fun k => by rw [orbP.l0]) ?_
    exact Ev.some_bind (a := cmpT x l) rfl (Ev.ite_pos ((cmpT_zero x l).2 e) (Ev.now _))
  ·obtain ⟨r, h1, h2, h3, h4⟩ := ih (acc ++ [x]) (flip2 x 0 1) (by simp; omega) (flip2_sign hs 0 1)
   refine ⟨r, ?_, ?_, h3, fun h => h4 (fun T hT => (List.mem_append.1 hT).elim (h T) (fun e => by rw [List.mem_singleton.1 e]; exact hs))⟩
   ·refine Ev.step (fun k => by rw [spec_gyOrbit.l0]) ?_
    refine Ev.bind (heSame_ev x l (few_sign hs)) ?_
    rw [decide_eq_false e]
    exact Ev.ite_neg (by simp) (Ev.ite_neg (by omega) (Ev.ite_pos (by omega) (Ev.some_bind (next_eq hs).1 h1)))
   ·refine Ev.step (fun k => by rw [orbP.l0]) ?_
    exact Ev.some_bind (a := cmpT x l) rfl (Ev.ite_neg (fun h => e ((cmpT_zero x l).1 h)) (Ev.ite_neg (by omega) (Ev.ite_pos (by omega) (Ev.some_bind (next_eq hs).2 h2))))
theorem orbit_ev (l : List (List Int)) (hf : fewRows l) : ∃ r, Ev (fun k => spec_GyrationOrbit.f k l) r ∧ Ev (fun k => gyoP.f k l) r ∧ (r.2 = false → r.1 = []) ∧ r.1.length ≤ 1000 ∧ ∀ T ∈ r.1, isSign T = true := by
 unfold spec_GyrationOrbit.f gyoP.f
 cases hs : isSign l with
 | false => exact ⟨([], false), Ev.bind (hs ▸ sgGood_ev l hf) (Ev.ite_neg (by simp) (Ev.now _)), Ev.some_bind (a := false) (by unfold impl_IsSignMatrix.f; rw [hs]) (Ev.ite_neg (by simp) (Ev.now _)), fun _ => rfl, by simp, fun T h => by cases h⟩
 | true =>
  obtain ⟨r, h1, h2, h3, h4⟩ := orb_l0 l 999 [l] (flip2 l 0 1) rfl (flip2_sign hs 0 1)
  have e1 : Ev (fun k => spec_gyOrbit.f k l) r := by
   unfold spec_gyOrbit.f
   exact Ev.bind (own_ev l hf) (Ev.some_bind (next_eq hs).1 h1)
  have e2 : Ev (fun k => orbP.f k l) r := by
   unfold orbP.f
   exact Ev.bind (copy_ev l hf) (Ev.some_bind (next_eq hs).2 h2)
  refine ⟨r, Ev.bind (hs ▸ sgGood_ev l hf) (Ev.ite_pos rfl (Ev.bind e1 (Ev.now _))), Ev.some_bind (a := true) (by unfold impl_IsSignMatrix.f; rw [hs]) (Ev.ite_pos rfl (Ev.bind e2 (Ev.now _))), h3, h4 (fun T hT => by rw [List.mem_singleton.1 hT]; exact hs)⟩
end Go.Proofs.Ythlgclfhoeakgaa.L
