/- The program's DescendingText answers as the reference's DescendingText, for every table; the table stays as it was (the walk of the law FnExactDescendingText; no condition). -/
import Derived.Test.YtojohgjjlljbiaaYDescendingText7
namespace Go.Proofs.Ytojohgjjlljbiaa.P
open Go.RowKit Go.Proofs.YtojohgjjlljbiaaW.PrintWords Go.Proofs.YtojohgjjlljbiaaW.PrintLast Go.Proofs.YtojohgjjlljbiaaW.PrintMore
attribute [local go_sem] max2_int min2_int max_two min_two max_three min_three max_four min_four   -- for this text's walks alone
set_option linter.unusedVariables false
set_option linter.unusedSimpArgs false

def laws_FnExactDescendingText.j0 : Nat → List (List Int) → List (List Int) → Bool → Option (Bool)
 | 0, _, _, _ => none
 | k + 1, x0, x6, x34 => if x34 = true then (some false) else ((laws_toIntSS.f x0).bind fun t171 => ((laws_eqIntSS.f k x6 t171).bind fun t174 => (if t174 = true then (some true) else (some false))))
def laws_FnExactDescendingText.f (k : Nat) (l0 : List (List Int)) : Option (Bool) := (laws_szIntSS.f k l0 1048576).bind fun t160 => (if t160 < 0 then (some true) else ((laws_toIntSS.f l0).bind fun t161 => ((spec_DescendingText.f k t161).bind fun bt164 => ((laws_toIntSS.f l0).bind fun t166 => ((impl_DescendingText.f k t166).bind fun bt169 => (if bt169.1.toList = bt164.1.toList then (laws_FnExactDescendingText.j0 k l0 t166 (bt169.2 != bt164.2)) else (laws_FnExactDescendingText.j0 k l0 t166 true)))))))
set_option maxHeartbeats 8000000 in
set_option maxRecDepth 100000 in
theorem laws_FnExactDescendingText.calls (k : Nat) (A0 : Option Addr) (c0 : Nat) (l0 : List (List Int)) (r : Bool) (w : World) (hr0 : Kd.C (Kd.slice 3 (Kd.int .i64)) w A0 l0.length l0) (hc0 : l0.length ≤ c0) (h : laws_FnExactDescendingText.f k l0 = some r) :
  Calls Try.prog 3 #[.slice A0 l0.length c0] w fun e w' => e = .returned (.bool r) ∧ Below w.heap.size w w' := by
 have HR0 := Aside0.mk hr0
 have HC0 := Aside0.mk hc0
 clear hr0 hc0
 have HB := Aside0.mk (Below.refl w.heap.size w)
 have H : ((laws_szIntSS.f k l0 1048576).bind fun t160 => (if t160 < 0 then (some true) else ((laws_toIntSS.f l0).bind fun t161 => ((spec_DescendingText.f k t161).bind fun bt164 => ((laws_toIntSS.f l0).bind fun t166 => ((impl_DescendingText.f k t166).bind fun bt169 => (if bt169.1.toList = bt164.1.toList then (laws_FnExactDescendingText.j0 k l0 t166 (bt169.2 != bt164.2)) else (laws_FnExactDescendingText.j0 k l0 t166 true)))))))) = some r := h
 clear h
 replace H := Option.bind_eq_some_iff.mp H
 obtain ⟨t160, A20, H⟩ := H
 replace H : (if t160 < 0 then (some true) else ((laws_toIntSS.f l0).bind fun t161 => ((spec_DescendingText.f k t161).bind fun bt164 => ((laws_toIntSS.f l0).bind fun t166 => ((impl_DescendingText.f k t166).bind fun bt169 => (if bt169.1.toList = bt164.1.toList then (laws_FnExactDescendingText.j0 k l0 t166 (bt169.2 != bt164.2)) else (laws_FnExactDescendingText.j0 k l0 t166 true))))))) = some r := H
 have A2 := Aside0.mk A20
 clear A20
 by_cases c3 : t160 < 0
 ·rw [if_pos c3] at H
  have c3b0 : decide (t160 < 0) = true := decide_eq_true c3
  clear c3
  obtain rfl := Option.some.inj H
  go_enter Try.func3, Try.ntmps3
  go_wp2_with (first | ((with_reducible refine gate_callee (f := 4) rfl ?_); refine goesL_ (some 11) rfl rfl Try.func4 (by kernel_rfl) rfl #[.slice A0 l0.length c0, .int .i64 1048576] rfl (by (try simp only [List.map_toArray, List.map_cons, List.map_nil]); first | done | rfl | (simp only [List.length_drop, List.length_take]; rfl)) ?_; (with_reducible refine (laws_szIntSS.calls k _ _ l0 1048576 t160 _ ?side1 ?side2 A2.out).mono ?_); (case side1 => repeat (first | exact HR0.out | (with_reducible refine Kd.C_alloc ?_ _) | (with_reducible refine Kd.C_drewN ?_ _) | (with_reducible refine Kd.C_drew ?_))); (case side2 => exact HC0.out); rintro e w' ⟨rfl, ⟨nd, rfl⟩⟩; refine ⟨_, rfl, ?_⟩))
  go_ret
  exact ⟨by first | rfl | (simp [errW_none, errW_some] <;> rfl) | (simp [*, errW_none, errW_some] <;> rfl), by repeat (first | (with_reducible first | exact HB.out | apply below_alloc | apply pw_below_drewN | apply below_drew1) | exact HB.out)⟩
 ·rw [if_neg c3] at H
  have c3b0 : decide (t160 < 0) = false := decide_eq_false c3
  clear c3
  replace H := Option.bind_eq_some_iff.mp H
  obtain ⟨t161, A40, H⟩ := H
  replace H : ((spec_DescendingText.f k t161).bind fun bt164 => ((laws_toIntSS.f l0).bind fun t166 => ((impl_DescendingText.f k t166).bind fun bt169 => (if bt169.1.toList = bt164.1.toList then (laws_FnExactDescendingText.j0 k l0 t166 (bt169.2 != bt164.2)) else (laws_FnExactDescendingText.j0 k l0 t166 true))))) = some r := H
  have A4 := Aside0.mk A40
  clear A40
  replace H := Option.bind_eq_some_iff.mp H
  obtain ⟨⟨t164, t165⟩, A50, H⟩ := H
  replace H : ((laws_toIntSS.f l0).bind fun t166 => ((impl_DescendingText.f k t166).bind fun bt169 => (if bt169.1.toList = t164.toList then (laws_FnExactDescendingText.j0 k l0 t166 (bt169.2 != t165)) else (laws_FnExactDescendingText.j0 k l0 t166 true)))) = some r := H
  have A5 := Aside0.mk A50
  clear A50
  replace H := Option.bind_eq_some_iff.mp H
  obtain ⟨t166, A60, H⟩ := H
  replace H : ((impl_DescendingText.f k t166).bind fun bt169 => (if bt169.1.toList = t164.toList then (laws_FnExactDescendingText.j0 k l0 t166 (bt169.2 != t165)) else (laws_FnExactDescendingText.j0 k l0 t166 true))) = some r := H
  have A6 := Aside0.mk A60
  clear A60
  replace H := Option.bind_eq_some_iff.mp H
  obtain ⟨⟨t169, t170⟩, A70, H⟩ := H
  replace H : (if t169.toList = t164.toList then (laws_FnExactDescendingText.j0 k l0 t166 (t170 != t165)) else (laws_FnExactDescendingText.j0 k l0 t166 true)) = some r := H
  have A7 := Aside0.mk A70
  clear A70
  have HC8 := Aside0.mk H
  clear H
  go_enter Try.func3, Try.ntmps3
  go_upto_region 8 with (first | ((with_reducible refine gate_callee (f := 4) rfl ?_); refine goesL_ (some 11) rfl rfl Try.func4 (by kernel_rfl) rfl #[.slice A0 l0.length c0, .int .i64 1048576] rfl (by (try simp only [List.map_toArray, List.map_cons, List.map_nil]); first | done | rfl | (simp only [List.length_drop, List.length_take]; rfl)) ?_; (with_reducible refine (laws_szIntSS.calls k _ _ l0 1048576 t160 _ ?side1 ?side2 A2.out).mono ?_); (case side1 => repeat (first | exact HR0.out | (with_reducible refine Kd.C_alloc ?_ _) | (with_reducible refine Kd.C_drewN ?_ _) | (with_reducible refine Kd.C_drew ?_))); (case side2 => exact HC0.out); rintro e w' ⟨rfl, ⟨nd, rfl⟩⟩; refine ⟨_, rfl, ?_⟩) | ((with_reducible refine gate_callee (f := 6) rfl ?_); refine goesL_ (some 16) rfl rfl Try.func6 (by kernel_rfl) rfl #[.slice A0 l0.length c0] rfl (by (try simp only [List.map_toArray, List.map_cons, List.map_nil]); first | done | rfl | (simp only [List.length_drop, List.length_take]; rfl)) ?_; (with_reducible refine (laws_toIntSS.calls _ _ l0 t161 _ ?side1 ?side2 A4.out).mono ?_); (case side1 => repeat (first | exact HR0.out | (with_reducible refine Kd.C_alloc ?_ _) | (with_reducible refine Kd.C_drewN ?_ _) | (with_reducible refine Kd.C_drew ?_))); (case side2 => exact HC0.out); rintro e w9 ⟨v162, rfl, ho0, hb⟩; refine ⟨_, rfl, ?_⟩; have n0_ := Aside0.mk (Kd.S_lower ho0 (below_size (by repeat (first | (with_reducible first | exact HB.out | apply below_alloc | apply pw_below_drewN | apply below_drew1) | exact HB.out)))); have n1_ := Aside0.mk (below_step (by repeat (first | (with_reducible first | exact HB.out | apply below_alloc | apply pw_below_drewN | apply below_drew1) | exact HB.out)) hb); clear HB; have HO163 := n0_; have HB := n1_; clear n0_ n1_; (try clear hb); (try clear hb2); (try clear hk); (try clear hi); (try clear ho0); obtain ⟨Ao10, co10, eo10⟩ := Kd.S_slice HO163.out; subst eo10) | ((with_reducible refine gate_callee (f := 5) rfl ?_); refine goesL_ (some 17) rfl rfl Try.func5 (by kernel_rfl) rfl #[.slice Ao10 t161.length co10] rfl (by (try simp only [List.map_toArray, List.map_cons, List.map_nil]); first | done | rfl | (simp only [List.length_drop, List.length_take]; rfl)) ?_; (with_reducible refine (spec_DescendingText.calls k _ _ t161 t164 t165 _ ?side1 ?side2 A5.out).mono ?_); (case side1 => repeat (first | exact (Kd.S_reads' HO163.out).2.2 | (with_reducible refine Kd.C_alloc ?_ _) | (with_reducible refine Kd.C_drewN ?_ _) | (with_reducible refine Kd.C_drew ?_))); (case side2 => exact (Kd.S_reads' HO163.out).2.1); rintro e w11 ⟨rfl, hb⟩; refine ⟨_, rfl, ?_⟩; have n0_ := Aside0.mk (Kd.S_below (by (with_reducible repeat (first | apply Kd.S_alloc | apply Kd.S_drewN | apply Kd.S_drew)); exact HO163.out) hb); have n1_ := Aside0.mk (below_step (by repeat (first | (with_reducible first | exact HB.out | apply below_alloc | apply pw_below_drewN | apply below_drew1) | exact HB.out)) hb); clear HO163; clear HB; have HO163 := n0_; have HB := n1_; clear n0_ n1_; (try clear hb); (try clear hb2); (try clear hk); (try clear hi)) | ((with_reducible refine gate_callee (f := 6) rfl ?_); refine goesL_ (some 21) rfl rfl Try.func6 (by kernel_rfl) rfl #[.slice A0 l0.length c0] rfl (by (try simp only [List.map_toArray, List.map_cons, List.map_nil]); first | done | rfl | (simp only [List.length_drop, List.length_take]; rfl)) ?_; (with_reducible refine (laws_toIntSS.calls _ _ l0 t166 _ ?side1 ?side2 A6.out).mono ?_); (case side1 => repeat (first | exact (Kd.C_below HR0.out HB.out) | (with_reducible refine Kd.C_alloc ?_ _) | (with_reducible refine Kd.C_drewN ?_ _) | (with_reducible refine Kd.C_drew ?_))); (case side2 => exact HC0.out); rintro e w12 ⟨v167, rfl, ho0, hb⟩; refine ⟨_, rfl, ?_⟩; have n0_ := Aside0.mk (Kd.S_elder' (by (with_reducible repeat (first | apply Kd.S_alloc | apply Kd.S_drewN | apply Kd.S_drew)); exact HO163.out) (Kd.S_base ho0) hb); have n1_ := Aside0.mk (Kd.S_lower (Kd.S_new' ho0 (Kd.S_lt (by (with_reducible repeat (first | apply Kd.S_alloc | apply Kd.S_drewN | apply Kd.S_drew)); exact HO163.out))) (below_size (by repeat (first | (with_reducible first | exact HB.out | apply below_alloc | apply pw_below_drewN | apply below_drew1) | exact HB.out)))); have n2_ := Aside0.mk (below_step (by repeat (first | (with_reducible first | exact HB.out | apply below_alloc | apply pw_below_drewN | apply below_drew1) | exact HB.out)) hb); clear HO163; clear HB; have HO163 := n0_; have HO168 := n1_; have HB := n2_; clear n0_ n1_ n2_; (try clear hb); (try clear hb2); (try clear hk); (try clear hi); (try clear ho0); obtain ⟨Ao13, co13, eo13⟩ := Kd.S_slice HO168.out; subst eo13) | ((with_reducible refine gate_callee (f := 7) rfl ?_); refine goesL_ (some 24) rfl rfl Try.func7 (by kernel_rfl) rfl #[.slice Ao13 t166.length co13] rfl (by (try simp only [List.map_toArray, List.map_cons, List.map_nil]); first | done | rfl | (simp only [List.length_drop, List.length_take]; rfl)) ?_; (with_reducible refine (impl_DescendingText.calls k _ _ t166 t169 t170 _ ?side1 ?side2 A7.out).mono ?_); (case side1 => repeat (first | exact (Kd.S_reads' HO168.out).2.2 | (with_reducible refine Kd.C_alloc ?_ _) | (with_reducible refine Kd.C_drewN ?_ _) | (with_reducible refine Kd.C_drew ?_))); (case side2 => exact (Kd.S_reads' HO168.out).2.1); rintro e w14 ⟨rfl, hb⟩; refine ⟨_, rfl, ?_⟩; have n0_ := Aside0.mk (Kd.S_below (by (with_reducible repeat (first | apply Kd.S_alloc | apply Kd.S_drewN | apply Kd.S_drew)); exact HO163.out) hb); have n1_ := Aside0.mk (Kd.S_below (by (with_reducible repeat (first | apply Kd.S_alloc | apply Kd.S_drewN | apply Kd.S_drew)); exact HO168.out) hb); have n2_ := Aside0.mk (below_step (by repeat (first | (with_reducible first | exact HB.out | apply below_alloc | apply pw_below_drewN | apply below_drew1) | exact HB.out)) hb); clear HO163; clear HO168; clear HB; have HO163 := n0_; have HO168 := n1_; have HB := n2_; clear n0_ n1_ n2_; (try clear hb); (try clear hb2); (try clear hk); (try clear hi)))
  (try simp only [Act.put, List.setIfInBounds_toArray, List.set_cons_zero, List.set_cons_succ])
  go_cut [34] (fun v34 wc => ∃ (kq : Nat) (x34_7 : Bool), v34 = .bool x34_7 ∧ Aside0 (laws_FnExactDescendingText.j0 kq l0 t166 x34_7 = some r) ∧ Aside0 (kq ≤ k) ∧ Aside0 (Kd.S (Kd.slice 3 (Kd.int .i64)) 30 wc w.heap.size (fun _ => True) (.slice Ao13 t166.length co13) t166) ∧ Aside0 (Below w.heap.size w wc))
  case first =>
   have H := HC8.out
   clear HC8
   by_cases c15 : t169.toList = t164.toList
   ·rw [if_pos c15] at H
    have c15b0 : (t169.toList == t164.toList) = true := beq_iff_eq.mpr c15
    have c15b1 : (t169.toList != t164.toList) = false := bne_eq_false_iff_eq.mpr c15
    clear c15
    (try rw [c15b1])
    (first | rw [c15b0] | (simp only [i64_w, i32_w]; rw [c15b0]) | skip)
    have H' := Aside0.mk H
    clear H
    go_wp2
    go_meet
    case rel => exact ⟨_, ((t170 != t165)), (by first | rfl | (simp; done) | (simp [*]; done)), H', ⟨by first | omega | exact Nat.le_refl _⟩, ⟨by (with_reducible repeat (first | apply Kd.S_alloc | apply Kd.S_drewN | apply Kd.S_drew)); exact Kd.S_mono HO168.out (fun _ hk => trivial)⟩, ⟨by repeat (first | (with_reducible first | exact HB.out | apply below_alloc | apply pw_below_drewN | apply below_drew1) | exact HB.out)⟩⟩
   ·rw [if_neg c15] at H
    have c15b0 : (t169.toList == t164.toList) = false := beq_eq_false_iff_ne.mpr c15
    have c15b1 : (t169.toList != t164.toList) = true := bne_iff_ne.mpr c15
    (try rw [c15b1])
    (first | rw [c15b0] | (simp only [i64_w, i32_w]; rw [c15b0]) | skip)
    have H' := Aside0.mk H
    clear H
    go_wp2
    go_meet
    case rel => exact ⟨_, (true), (by first | rfl | (simp; done) | (simp [*]; done)), H', ⟨by first | omega | exact Nat.le_refl _⟩, ⟨by (with_reducible repeat (first | apply Kd.S_alloc | apply Kd.S_drewN | apply Kd.S_drew)); exact Kd.S_mono HO168.out (fun _ hk => trivial)⟩, ⟨by repeat (first | (with_reducible first | exact HB.out | apply below_alloc | apply pw_below_drewN | apply below_drew1) | exact HB.out)⟩⟩
  case rest =>
   clear HC8
   try clear c1
   try clear p2
   try clear c3
   try clear c3b0
   try clear c4
   try clear c5
   try clear c6
   try clear c7
   try clear c15
   try clear c15b0
   try clear c15b1
   obtain ⟨kq, x34_7, rfl, HA, HJ7, HO_6, HB⟩ := hcut
   cases kq with
   | zero => exact absurd HA.out (by simp [laws_FnExactDescendingText.j0])
   | succ kj7 =>
    have H := HA.out
    clear HA
    simp only [laws_FnExactDescendingText.j0] at H
    by_cases c16 : x34_7 = true
    ·subst c16
     have H1 : (some false) = some r := by rw [if_pos rfl] at H; exact H
     clear H
     have H := H1
     clear H1
     obtain rfl := Option.some.inj H
     go_wp2
     go_ret
     exact ⟨by first | rfl | (simp [errW_none, errW_some] <;> rfl) | (simp [*, errW_none, errW_some] <;> rfl), by repeat (first | (with_reducible first | exact HB.out | apply below_alloc | apply pw_below_drewN | apply below_drew1) | exact HB.out)⟩
    ·replace c16 := Bool.eq_false_iff.mpr c16
     subst c16
     have H1 : ((laws_toIntSS.f l0).bind fun t171 => ((laws_eqIntSS.f kj7 t166 t171).bind fun t174 => (if t174 = true then (some true) else (some false)))) = some r := by rw [if_neg (show ¬ (false = true) by decide)] at H; exact H
     clear H
     have H := H1
     clear H1
     replace H := Option.bind_eq_some_iff.mp H
     obtain ⟨t171, A170, H⟩ := H
     replace H : ((laws_eqIntSS.f kj7 t166 t171).bind fun t174 => (if t174 = true then (some true) else (some false))) = some r := H
     have A17 := Aside0.mk A170
     clear A170
     replace H := Option.bind_eq_some_iff.mp H
     obtain ⟨t174, A180, H⟩ := H
     replace H : (if t174 = true then (some true) else (some false)) = some r := H
     have A18 := Aside0.mk A180
     clear A180
     by_cases c19 : t174 = true
     ·subst c19
      have H1 : (some true) = some r := by rw [if_pos rfl] at H; exact H
      clear H
      have H := H1
      clear H1
      obtain rfl := Option.some.inj H
      go_wp2_with (first | ((with_reducible refine gate_callee (f := 6) rfl ?_); refine goesL_ (some 37) rfl rfl Try.func6 (by kernel_rfl) rfl #[.slice A0 l0.length c0] rfl (by (try simp only [List.map_toArray, List.map_cons, List.map_nil]); first | done | rfl | (simp only [List.length_drop, List.length_take]; rfl)) ?_; (with_reducible refine (laws_toIntSS.calls _ _ l0 t171 _ ?side1 ?side2 A17.out).mono ?_); (case side1 => repeat (first | exact (Kd.C_below HR0.out HB.out) | (with_reducible refine Kd.C_alloc ?_ _) | (with_reducible refine Kd.C_drewN ?_ _) | (with_reducible refine Kd.C_drew ?_))); (case side2 => exact HC0.out); rintro e w20 ⟨v172, rfl, ho0, hb⟩; refine ⟨_, rfl, ?_⟩; have n0_ := Aside0.mk (Kd.S_elder' (by (with_reducible repeat (first | apply Kd.S_alloc | apply Kd.S_drewN | apply Kd.S_drew)); exact HO_6.out) (Kd.S_base ho0) hb); have n1_ := Aside0.mk (Kd.S_lower (Kd.S_new' ho0 (Kd.S_lt (by (with_reducible repeat (first | apply Kd.S_alloc | apply Kd.S_drewN | apply Kd.S_drew)); exact HO_6.out))) (below_size (by repeat (first | (with_reducible first | exact HB.out | apply below_alloc | apply pw_below_drewN | apply below_drew1) | exact HB.out)))); have n2_ := Aside0.mk (below_step (by repeat (first | (with_reducible first | exact HB.out | apply below_alloc | apply pw_below_drewN | apply below_drew1) | exact HB.out)) hb); clear HO_6; clear HB; have HO_6 := n0_; have HO173 := n1_; have HB := n2_; clear n0_ n1_ n2_; (try clear hb); (try clear hb2); (try clear hk); (try clear hi); (try clear ho0); obtain ⟨Ao21, co21, eo21⟩ := Kd.S_slice HO173.out; subst eo21) | ((with_reducible refine gate_callee (f := 8) rfl ?_); refine goesL_ (some 38) rfl rfl Try.func8 (by kernel_rfl) rfl #[.slice Ao13 t166.length co13, .slice Ao21 t171.length co21] rfl (by (try simp only [List.map_toArray, List.map_cons, List.map_nil]); first | done | rfl | (simp only [List.length_drop, List.length_take]; rfl)) ?_; (with_reducible refine (laws_eqIntSS.calls kj7 _ _ t166 _ _ t171 true _ ?side1 ?side2 ?side3 ?side4 A18.out).mono ?_); (case side1 => repeat (first | exact (Kd.S_reads' HO_6.out).2.2 | (with_reducible refine Kd.C_alloc ?_ _) | (with_reducible refine Kd.C_drewN ?_ _) | (with_reducible refine Kd.C_drew ?_))); (case side2 => exact (Kd.S_reads' HO_6.out).2.1); (case side3 => repeat (first | exact (Kd.S_reads' HO173.out).2.2 | (with_reducible refine Kd.C_alloc ?_ _) | (with_reducible refine Kd.C_drewN ?_ _) | (with_reducible refine Kd.C_drew ?_))); (case side4 => exact (Kd.S_reads' HO173.out).2.1); rintro e w' ⟨rfl, ⟨nd, rfl⟩⟩; refine ⟨_, rfl, ?_⟩))
      go_ret
      exact ⟨by first | rfl | (simp [errW_none, errW_some] <;> rfl) | (simp [*, errW_none, errW_some] <;> rfl), by repeat (first | (with_reducible first | exact HB.out | apply below_alloc | apply pw_below_drewN | apply below_drew1) | exact HB.out)⟩
     ·replace c19 := Bool.eq_false_iff.mpr c19
      subst c19
      have H1 : (some false) = some r := by rw [if_neg (show ¬ (false = true) by decide)] at H; exact H
      clear H
      have H := H1
      clear H1
      obtain rfl := Option.some.inj H
      go_wp2_with (first | ((with_reducible refine gate_callee (f := 6) rfl ?_); refine goesL_ (some 37) rfl rfl Try.func6 (by kernel_rfl) rfl #[.slice A0 l0.length c0] rfl (by (try simp only [List.map_toArray, List.map_cons, List.map_nil]); first | done | rfl | (simp only [List.length_drop, List.length_take]; rfl)) ?_; (with_reducible refine (laws_toIntSS.calls _ _ l0 t171 _ ?side1 ?side2 A17.out).mono ?_); (case side1 => repeat (first | exact (Kd.C_below HR0.out HB.out) | (with_reducible refine Kd.C_alloc ?_ _) | (with_reducible refine Kd.C_drewN ?_ _) | (with_reducible refine Kd.C_drew ?_))); (case side2 => exact HC0.out); rintro e w22 ⟨v172, rfl, ho0, hb⟩; refine ⟨_, rfl, ?_⟩; have n0_ := Aside0.mk (Kd.S_elder' (by (with_reducible repeat (first | apply Kd.S_alloc | apply Kd.S_drewN | apply Kd.S_drew)); exact HO_6.out) (Kd.S_base ho0) hb); have n1_ := Aside0.mk (Kd.S_lower (Kd.S_new' ho0 (Kd.S_lt (by (with_reducible repeat (first | apply Kd.S_alloc | apply Kd.S_drewN | apply Kd.S_drew)); exact HO_6.out))) (below_size (by repeat (first | (with_reducible first | exact HB.out | apply below_alloc | apply pw_below_drewN | apply below_drew1) | exact HB.out)))); have n2_ := Aside0.mk (below_step (by repeat (first | (with_reducible first | exact HB.out | apply below_alloc | apply pw_below_drewN | apply below_drew1) | exact HB.out)) hb); clear HO_6; clear HB; have HO_6 := n0_; have HO173 := n1_; have HB := n2_; clear n0_ n1_ n2_; (try clear hb); (try clear hb2); (try clear hk); (try clear hi); (try clear ho0); obtain ⟨Ao23, co23, eo23⟩ := Kd.S_slice HO173.out; subst eo23) | ((with_reducible refine gate_callee (f := 8) rfl ?_); refine goesL_ (some 38) rfl rfl Try.func8 (by kernel_rfl) rfl #[.slice Ao13 t166.length co13, .slice Ao23 t171.length co23] rfl (by (try simp only [List.map_toArray, List.map_cons, List.map_nil]); first | done | rfl | (simp only [List.length_drop, List.length_take]; rfl)) ?_; (with_reducible refine (laws_eqIntSS.calls kj7 _ _ t166 _ _ t171 false _ ?side1 ?side2 ?side3 ?side4 A18.out).mono ?_); (case side1 => repeat (first | exact (Kd.S_reads' HO_6.out).2.2 | (with_reducible refine Kd.C_alloc ?_ _) | (with_reducible refine Kd.C_drewN ?_ _) | (with_reducible refine Kd.C_drew ?_))); (case side2 => exact (Kd.S_reads' HO_6.out).2.1); (case side3 => repeat (first | exact (Kd.S_reads' HO173.out).2.2 | (with_reducible refine Kd.C_alloc ?_ _) | (with_reducible refine Kd.C_drewN ?_ _) | (with_reducible refine Kd.C_drew ?_))); (case side4 => exact (Kd.S_reads' HO173.out).2.1); rintro e w' ⟨rfl, ⟨nd, rfl⟩⟩; refine ⟨_, rfl, ?_⟩))
      go_ret
      exact ⟨by first | rfl | (simp [errW_none, errW_some] <;> rfl) | (simp [*, errW_none, errW_some] <;> rfl), by repeat (first | (with_reducible first | exact HB.out | apply below_alloc | apply pw_below_drewN | apply below_drew1) | exact HB.out)⟩

end Go.Proofs.Ytojohgjjlljbiaa.P

namespace Go.Proofs.Ytojohgjjlljbiaa.Law
open Go.RowKit Go.Proofs.Ytojohgjjlljbiaa Go.Proofs.Ytojohgjjlljbiaa.P Go.Proofs.Ytojohgjjlljbiaa.L Go.Proofs.YtojohgjjlljbiaaW.PrintWords Go.Proofs.YtojohgjjlljbiaaW.PrintLast Go.Proofs.YtojohgjjlljbiaaW.PrintMore
set_option linter.unusedVariables false

theorem goodRow (n : Int) (l : List (List Int)) (h : goodFrom n l 0 = true) (i : Nat) (hi : i < l.length) : rowGood n (l.getD i []) = true := by
 have := List.all_eq_true.1 h i (by rw [List.mem_range'_1]; omega)
 simp only [Bool.and_eq_true] at this
 exact this.1
/-- The digit of a part, and the text of a row. -/
def dgN (x : Int) : Int := (wrap64 (48 + x)) % 256
def dg (x : Int) : UInt8 := UInt8.ofNat (dgN x).toNat
def rowT (r : List Int) : List UInt8 := r.map dg
def bs (l : List UInt8) : ByteArray := ⟨l.toArray⟩
theorem bs_app (a b : List UInt8) : bs a ++ bs b = bs (a ++ b) := by
 apply ByteArray.ext
 rw [ByteArray.data_append]
 simp [bs]
theorem bs_size (a : List UInt8) : (bs a).size = a.length := by simp [bs, ByteArray.size]
theorem nums_row (r : List Int) : strOfNums (r.map dgN) = bs (rowT r) := by
 unfold strOfNums bs rowT dg
 rw [List.map_map]; rfl
theorem l1Num_small (x : Int) (h : x < 10) : Ev (fun k => spec_l1Num.f k x) (bs [dg x]) := by
 refine Ev.step (fun k => by rw [spec_l1Num.f]) ?_
 refine Ev.ite_pos h ?_
 exact Ev.now _
/-- The text behind i rows. -/
def txtTo (l : List (List Int)) (i : Nat) : List UInt8 := Lib.join ((l.take i).map rowT) [47]
theorem txt_succ (l : List (List Int)) (i : Nat) (hi : i < l.length) : txtTo l (i + 1) = txtTo l i ++ ((if 0 < i then [47] else []) ++ rowT (l.getD i [])) := by
 unfold txtTo
 have hg : l.getD i [] = l[i] := by rw [List.getD_eq_getElem?_getD, List.getElem?_eq_getElem hi]; rfl
 rw [hg, List.take_succ_eq_append_getElem hi, List.map_append, List.map_cons, List.map_nil]
 cases i with
 | zero =>
  rw [if_neg (by omega), List.take_zero, List.map_nil, Lib.join_nil]
  simp only [List.nil_append]
  exact Lib.join_one _ _
 | succ i =>
  rw [if_pos (by omega)]
  obtain ⟨a, r, rfl⟩ : ∃ a r, l = a :: r := by
   cases l with
   | nil => simp at hi
   | cons a r => exact ⟨a, r, rfl⟩
  rw [List.take_succ_cons, List.map_cons, List.cons_append, Lib.join_cons, Lib.join_cons]
  simp [Lib.joinTail, List.append_assoc]
theorem impl_l1 (l : List (List Int)) (P : List ByteArray) (hP : P.length ≤ 1000) (i : Nat) (hi : i ≤ 1000) (row : List Int) (hr : row.length ≤ 1000) (R : ByteArray × Bool) (hR : Ev (fun k => impl_DescendingText.l0 k (P ++ [bs (rowT row)]) l l.length ((i + 1 : Nat) : Int)) R) :
  ∀ (d j : Nat), j + d = row.length → Ev (fun k => impl_DescendingText.l1 k P ((row.take j).map dgN) l l.length i row row.length j) R := by
 intro d
 induction d with
 | zero =>
  intro j hj
  refine Ev.step (fun k => by rw [impl_DescendingText.l1]) ?_
  refine Ev.ite_neg (by omega) (Ev.ite_pos (by omega) ?_)
  rw [List.take_of_length_le (by omega), nums_row, wrapS i (by omega)]
  exact hR
 | succ d ih =>
  intro j hj
  have hjl : j < row.length := by omega
  refine Ev.step (fun k => by rw [impl_DescendingText.l1]) ?_
  have hnext := ih (j + 1) (by omega)
  rw [List.take_succ_eq_append_getElem hjl, List.map_append, List.map_cons, List.map_nil] at hnext
  refine Ev.ite_pos (by omega) (Ev.ite_pos (by omega) (Ev.ite_pos (by omega) (Ev.ite_pos (by rw [List.length_map, List.length_take]; omega) ?_)))
  rw [rd_at row j hjl, wrapS j (by omega)]
  exact hnext
theorem impl_l0 (l : List (List Int)) (hl : l.length ≤ 100) (hr : ∀ i, i < l.length → (l.getD i []).length ≤ 100) : ∀ (d i : Nat), i + d = l.length → Ev (fun k => impl_DescendingText.l0 k ((l.take i).map fun r => bs (rowT r)) l l.length i) (bs (txtTo l l.length), true) := by
 intro d
 induction d with
 | zero =>
  intro i hi
  refine Ev.step (fun k => by rw [impl_DescendingText.l0]) ?_
  rw [List.take_of_length_le (by omega)]
  refine Ev.ite_neg (by omega) (Ev.some_bind ?_ (Ev.now _))
  unfold strings_Join.f
  rw [if_pos]
  ·unfold txtTo
   rw [List.take_of_length_le (Nat.le_refl _), List.map_map]
   have e1 : ((·.data.toList) ∘ fun r : List Int => bs (rowT r)) = rowT := by funext r; simp [bs]
   rw [e1]
   rfl
  ·unfold sjOk
   rw [List.length_map, decide_eq_true (by omega), Bool.true_and, decide_eq_true (show (⟨#[47]⟩ : ByteArray).size ≤ 1000 by decide), Bool.true_and]
   refine List.all_eq_true.2 fun x hx => ?_
   obtain ⟨r, hr2, rfl⟩ := List.mem_map.1 hx
   obtain ⟨i, hi2, rfl⟩ := List.getElem_of_mem hr2
   have := hr i hi2
   rw [List.getD_eq_getElem?_getD, List.getElem?_eq_getElem hi2] at this
   refine decide_eq_true ?_
   rw [bs_size, rowT, List.length_map]
   have h2 : l[i].length ≤ 100 := this
   omega
 | succ d ih =>
  intro i hi
  have hil : i < l.length := by omega
  refine Ev.step (fun k => by rw [impl_DescendingText.l0]) ?_
  have hnext := ih (i + 1) (by omega)
  rw [List.take_succ_eq_append_getElem hil, List.map_append, List.map_cons, List.map_nil] at hnext
  refine Ev.ite_pos (by omega) (Ev.ite_pos (by omega) (Ev.ite_pos (by omega) ?_))
  have h1 := hr i hil
  rw [rd1_get]
  have hg : l.getD i [] = l[i] := by rw [List.getD_eq_getElem?_getD, List.getElem?_eq_getElem hil]; rfl
  rw [hg] at h1 ⊢
  exact impl_l1 l _ (by rw [List.length_map, List.length_take]; omega) i (by omega) l[i] (by omega) _ hnext l[i].length 0 (by omega)
theorem spec_l1 (l : List (List Int)) (B : List UInt8) (i : Nat) (hi : i ≤ 1000) (row : List Int) (hr : ∀ x ∈ row, x < 10) (hB : B.length + row.length ≤ 100000) (R : ByteArray) (hR : Ev (fun k => spec_dpText.l0 k (bs (B ++ rowT row)) l l.length ((i + 1 : Nat) : Int)) R) :
  ∀ (d j : Nat), j + d = row.length → Ev (fun k => spec_dpText.l1 k (bs (B ++ (rowT row).take j)) l l.length i row row.length j) R := by
 intro d
 induction d with
 | zero =>
  intro j hj
  refine Ev.step (fun k => by rw [spec_dpText.l1]) ?_
  rw [List.take_of_length_le (by rw [rowT, List.length_map]; omega), wrapS i (by omega)]
  exact Ev.ite_neg (by omega) hR
 | succ d ih =>
  intro j hj
  have hjl : j < row.length := by omega
  refine Ev.step (fun k => by rw [spec_dpText.l1]) ?_
  have hnext := ih (j + 1) (by omega)
  have e : (rowT row).take (j + 1) = (rowT row).take j ++ [dg row[j]] := by
   rw [List.take_succ_eq_append_getElem (by rw [rowT, List.length_map]; exact hjl)]
   simp [rowT]
  rw [e, ← List.append_assoc, ← bs_app] at hnext
  refine Ev.ite_pos (by omega) (Ev.ite_pos (by omega) (Ev.ite_pos (by omega) ?_))
  rw [rd_at row j hjl, wrapS j (by omega)]
  refine Ev.bind (l1Num_small row[j] (hr _ (List.getElem_mem hjl))) (Ev.ite_pos ?_ hnext)
  rw [bs_size, bs_size, List.length_append, List.length_take, rowT, List.length_map]
  simp only [List.length_cons, List.length_nil]
  omega
theorem txt_len (l : List (List Int)) (hr : ∀ i, i < l.length → (l.getD i []).length ≤ 100) : ∀ i, i ≤ l.length → (txtTo l i).length ≤ i * 101
 | 0, _ => by simp [txtTo, Lib.join_nil]
 | i + 1, hi => by
  have h1 := txt_len l hr i (by omega)
  have h2 := hr i (by omega)
  rw [txt_succ l i (by omega), List.length_append, List.length_append, rowT, List.length_map]
  have h3 : (if 0 < i then ([47] : List UInt8) else []).length ≤ 1 := by split <;> simp
  omega
theorem spec_l0 (l : List (List Int)) (hl : l.length ≤ 100) (hr : ∀ i, i < l.length → (l.getD i []).length ≤ 100) (hx : ∀ i, i < l.length → ∀ x ∈ l.getD i [], x < 10) : ∀ (d i : Nat), i + d = l.length → Ev (fun k => spec_dpText.l0 k (bs (txtTo l i)) l l.length i) (bs (txtTo l l.length)) := by
 intro d
 induction d with
 | zero =>
  intro i hi
  refine Ev.step (fun k => by rw [spec_dpText.l0]) ?_
  rw [show i = l.length by omega]
  exact Ev.ite_neg (by omega) (Ev.now _)
 | succ d ih =>
  intro i hi
  have hil : i < l.length := by omega
  have hnext := ih (i + 1) (by omega)
  have h1 := hr i hil
  have h2 := txt_len l hr i (by omega)
  rw [txt_succ l i hil, ← List.append_assoc] at hnext
  refine Ev.step (fun k => by rw [spec_dpText.l0]) ?_
  refine Ev.ite_pos (by omega) (Ev.ite_pos (by omega) (Ev.ite_pos (by omega) ?_))
  rw [rd1_get]
  by_cases h0 : 0 < i
  ·rw [if_pos h0] at hnext
   refine Ev.ite_pos (by omega) (Ev.ite_pos (by rw [bs_size]; omega) ?_)
   refine Ev.step (fun k => by rw [spec_dpText.j1]) ?_
   rw [show (⟨#[47]⟩ : ByteArray) = bs [47] from rfl, bs_app]
   have := spec_l1 l (txtTo l i ++ [47]) i (by omega) (l.getD i []) (hx i hil) (by rw [List.length_append]; simp only [List.length_cons, List.length_nil]; omega) _ hnext (l.getD i []).length 0 (by omega)
   rw [List.take_zero, List.append_nil] at this
   exact this
  ·rw [if_neg h0, List.append_nil] at hnext
   refine Ev.ite_neg (by omega) ?_
   refine Ev.step (fun k => by rw [spec_dpText.j1]) ?_
   have := spec_l1 l (txtTo l i) i (by omega) (l.getD i []) (hx i hil) (by omega) _ hnext (l.getD i []).length 0 (by omega)
   rw [List.take_zero, List.append_nil] at this
   exact this
theorem bothDescendingText (l : List (List Int)) (hl : rowsOk l) : ∃ (b : ByteArray) (c : Bool), Ev (fun k => spec_DescendingText.f k l) (b, c) ∧ Ev (fun k => impl_DescendingText.f k l) (b, c) := by
 unfold spec_DescendingText.f impl_DescendingText.f
 cases h : isDesc 6 l with
 | false => exact ⟨⟨#[]⟩, false, Ev.bind (h ▸ spec_isDesc_ev 6 l hl (by omega)) (Ev.ite_neg (by simp) (Ev.now _)), Ev.bind (h ▸ impl_isDesc_ev 6 l hl) (Ev.ite_neg (by simp) (Ev.now _))⟩
 | true =>
  have h6 := isDesc_short 6 l (by omega) h
  have hr : ∀ i, i < l.length → (l.getD i []).length ≤ 100 := fun i hi => by have := (rowGood_facts (goodRow 6 l h i hi)).2.1; omega
  have hx : ∀ i, i < l.length → ∀ x ∈ l.getD i [], x < 10 := fun i hi x hx => by
   have := List.all_eq_true.1 (rowGood_facts (goodRow 6 l h i hi)).2.2.1 x hx
   have := (inB_iff _ _ _).1 this
   omega
  by_cases h0 : (l.length : Int) = 0
  ·refine ⟨⟨#[45]⟩, true, Ev.bind (h ▸ spec_isDesc_ev 6 l hl (by omega)) (Ev.ite_pos rfl ?_), Ev.bind (h ▸ impl_isDesc_ev 6 l hl) (Ev.ite_pos rfl (Ev.ite_pos h0 (Ev.now _)))⟩
   unfold spec_dpText.f
   exact Ev.bind (Ev.ite_pos h0 (Ev.now _)) (Ev.now _)
  ·refine ⟨bs (txtTo l l.length), true, Ev.bind (h ▸ spec_isDesc_ev 6 l hl (by omega)) (Ev.ite_pos rfl ?_), Ev.bind (h ▸ impl_isDesc_ev 6 l hl) (Ev.ite_pos rfl (Ev.ite_neg h0 ?_))⟩
   ·unfold spec_dpText.f
    exact Ev.bind (Ev.ite_neg h0 (spec_l0 l (by omega) hr hx l.length 0 (by omega))) (Ev.now _)
   ·exact impl_l0 l (by omega) hr l.length 0 (by omega)
theorem pureDescendingText (l : List (List Int)) (t : Int) (ht : Ev (fun k => laws_szIntSS.f k l 1048576) t) (hd : t < 0 ∨ fewRows l) : ∃ k, laws_FnExactDescendingText.f k l = some true := by
 refine Ev.rounds ?_
 unfold laws_FnExactDescendingText.f
 refine Ev.bind ht ?_
 by_cases hn : t < 0
 ·exact Ev.ite_pos hn (Ev.now _)
 ·have hf := hd.resolve_left hn
  obtain ⟨b, c, h1, h2⟩ := bothDescendingText l hf.ok
  refine Ev.ite_neg hn (Ev.some_bind (toIntSS_eq l hf.ok) (Ev.bind h1 (Ev.some_bind (toIntSS_eq l hf.ok) (Ev.bind h2 (Ev.ite_pos rfl ?_)))))
  refine Ev.step (fun k => by rw [laws_FnExactDescendingText.j0]) ?_
  exact Ev.ite_neg (by simp) (Ev.some_bind (toIntSS_eq l hf.ok) (Ev.bind (eqIntSS l hf.ok) (Ev.ite_pos rfl (Ev.now _))))
theorem FnExactDescendingText (A : Option Addr) (cap : Nat) (l : List (List Int)) {W0 : World} (h : RowsIn W0 A l.length cap l) (W : World) (hW : W = W0) :
  Calls Try.prog 3 #[.slice A l.length cap] W fun e w' => e = .returned (.bool true) ∧ Below W.heap.size W w' := by
 subst hW
 obtain ⟨t, ht, hd⟩ := szIntSS_in h
 obtain ⟨k, hk⟩ := pureDescendingText l t ht hd
 exact laws_FnExactDescendingText.calls k A cap l true W h.read h.le hk
end Go.Proofs.Ytojohgjjlljbiaa.Law
