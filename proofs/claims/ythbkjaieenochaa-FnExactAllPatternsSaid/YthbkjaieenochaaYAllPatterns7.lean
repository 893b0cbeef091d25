/- The program's AllPatterns answers as the reference's AllPatterns, for every number; what comes back is the call's own (the walk of the law FnExactAllPatterns; no condition). -/
import Derived.Test.YthbkjaieenochaaYAllPatterns6
import Derived.Test.YthbkjaieenochaaWMore
namespace Go.Proofs.Ythbkjaieenochaa.L
open Go.RowKit Go.Proofs.Ythbkjaieenochaa Go.Proofs.Ythbkjaieenochaa.P Go.Proofs.YthbkjaieenochaaW.PrintWords Go.Proofs.YthbkjaieenochaaW.PrintLast Go.Proofs.YthbkjaieenochaaW.PrintMore
set_option linter.unusedVariables false
set_option maxRecDepth 100000

/-- All patterns of side n. -/
def paX (n : Nat) : List (List Int) := (jnE 200 (List.replicate (2 * n) (-1))).getD []
/-- What is to be said of them. -/
def PaOk (n : Nat) : Prop := bits_Mul.f 1 ((2 * n : Nat) : Int) = some (0, ((2 * n : Nat) : Int)) ∧ jnE 200 (List.replicate (2 * n) (-1)) = some (paX n) ∧ spec_loAll.f 2000 (n : Int) 0 = some (paX n) ∧ (paX n).length ≤ 200 ∧ ((paX n).all fun x => decide (x.length = 2 * n)) = true ∧ ((paX n).all fun x => decide (impl_IsPattern.f 1000 x = some true)) = true
instance (n : Nat) : Decidable (PaOk n) := by unfold PaOk; infer_instance
theorem pa_1 : PaOk 1 := by decide +kernel
theorem pa_2 : PaOk 2 := by decide +kernel
theorem pa_3 : PaOk 3 := by decide +kernel
theorem pa_4 : PaOk 4 := by decide +kernel
theorem pa_5 : PaOk 5 := by decide +kernel
theorem pa_6 : PaOk 6 := by decide +kernel
theorem pa_all {n : Nat} (h0 : 1 ≤ n) (h1 : n ≤ 6) : PaOk n := by
 have e : n = 1 ∨ n = 2 ∨ n = 3 ∨ n = 4 ∨ n = 5 ∨ n = 6 := by omega
 rcases e with rfl | rfl | rfl | rfl | rfl | rfl
 ·exact pa_1
 ·exact pa_2
 ·exact pa_3
 ·exact pa_4
 ·exact pa_5
 ·exact pa_6
theorem impl_patterns_calls (n : Nat) (h0 : 1 ≤ n) (h1 : n ≤ 6) (w : World) : Calls Try.prog 39 #[.int .i64 n] w (RetM2 w (paX n)) := by
 obtain ⟨p1, p2, _, p4, _, p6⟩ := pa_all h0 h1
 exact impl_patterns.callsG n 200 1000 (paX n) w h0 (by omega) p1 p2 (by omega) (fun x hx => of_decide_eq_true (List.all_eq_true.1 p6 x hx))
end Go.Proofs.Ythbkjaieenochaa.L

namespace Go.Proofs.Ythbkjaieenochaa.P
open Go.RowKit Go.Proofs.YthbkjaieenochaaW.PrintWords Go.Proofs.YthbkjaieenochaaW.PrintLast Go.Proofs.YthbkjaieenochaaW.PrintMore
attribute [local go_sem] max2_int min2_int max_two min_two max_three min_three max_four min_four   -- for this text's walks alone
set_option linter.unusedVariables false
set_option linter.unusedSimpArgs false

def spec_l1In.f (a0 : Int) (a1 : Int) (a2 : Int) : Option (Bool) := if a0 ≥ a1 then (some (decide (a0 ≤ a2))) else (some false)
set_option maxHeartbeats 8000000 in
set_option maxRecDepth 100000 in
theorem spec_l1In.calls (a0 : Int) (a1 : Int) (a2 : Int) (r : Bool) (w : World) (h : spec_l1In.f a0 a1 a2 = some r) :
  Calls Try.prog 48 #[.int .i64 a0, .int .i64 a1, .int .i64 a2] w fun e w' => e = .returned (.bool r) ∧ Drawn0 w w' := by
 have H : (if a0 ≥ a1 then (some (decide (a0 ≤ a2))) else (some false)) = some r := h
 clear h
 by_cases c4 : a0 ≥ a1
 ·rw [if_pos c4] at H
  have c4b0 : decide (a1 ≤ a0) = true := decide_eq_true c4
  clear c4
  obtain rfl := Option.some.inj H
  go_enter Try.func48, Try.ntmps48
  go_wp2
  go_ret
  exact ⟨by first | rfl | (simp; done) | (simp [*]; done), by repeat (first | exact Drawn0.refl _ | apply Drawn0.step)⟩
 ·rw [if_neg c4] at H
  have c4b0 : decide (a1 ≤ a0) = false := decide_eq_false c4
  clear c4
  obtain rfl := Option.some.inj H
  go_enter Try.func48, Try.ntmps48
  go_wp2
  go_ret
  exact ⟨by first | rfl | (simp; done) | (simp [*]; done), by repeat (first | exact Drawn0.refl _ | apply Drawn0.step)⟩

end Go.Proofs.Ythbkjaieenochaa.P

namespace Go.Proofs.Ythbkjaieenochaa.P
open Go.RowKit Go.Proofs.YthbkjaieenochaaW.PrintWords Go.Proofs.YthbkjaieenochaaW.PrintLast Go.Proofs.YthbkjaieenochaaW.PrintMore
attribute [local go_sem] max2_int min2_int max_two min_two max_three min_three max_four min_four   -- for this text's walks alone
set_option linter.unusedVariables false
set_option linter.unusedSimpArgs false

def spec_heSide.f (a0 : Int) : Option (Bool) := (spec_l1In.f a0 1 6).bind fun t101 => (some t101)
set_option maxHeartbeats 8000000 in
set_option maxRecDepth 100000 in
theorem spec_heSide.calls (a0 : Int) (r : Bool) (w : World) (h : spec_heSide.f a0 = some r) :
  Calls Try.prog 36 #[.int .i64 a0] w fun e w' => e = .returned (.bool r) ∧ Drawn0 w w' := by
 have H : ((spec_l1In.f a0 1 6).bind fun t101 => (some t101)) = some r := h
 clear h
 replace H := Option.bind_eq_some_iff.mp H
 obtain ⟨t101, A20, H⟩ := H
 replace H : (some t101) = some r := H
 have A2 := Aside0.mk A20
 clear A20
 obtain rfl := Option.some.inj H
 go_enter Try.func36, Try.ntmps36
 go_wp2_with (first | ((with_reducible refine gate_callee (f := 48) rfl ?_); refine goesL_ (some 4) rfl rfl Try.func48 (by kernel_rfl) rfl #[.int .i64 a0, .int .i64 1, .int .i64 6] rfl (by (try simp only [List.map_toArray, List.map_cons, List.map_nil]); first | done | rfl | (simp only [List.length_drop, List.length_take]; rfl)) ?_; (with_reducible refine (spec_l1In.calls a0 1 6 t101 _ A2.out).mono ?_); rintro e w' ⟨rfl, ⟨nd, rfl⟩⟩; refine ⟨_, rfl, ?_⟩))
 go_ret
 exact ⟨by first | rfl | (simp; done) | (simp [*]; done), by repeat (first | exact Drawn0.refl _ | apply Drawn0.step)⟩

end Go.Proofs.Ythbkjaieenochaa.P

namespace Go.Proofs.Ythbkjaieenochaa.P
open Go.RowKit Go.Proofs.YthbkjaieenochaaW.PrintWords Go.Proofs.YthbkjaieenochaaW.PrintLast Go.Proofs.YthbkjaieenochaaW.PrintMore
attribute [local go_sem] max2_int min2_int max_two min_two max_three min_three max_four min_four   -- for this text's walks alone
set_option linter.unusedVariables false
set_option linter.unusedSimpArgs false

def spec_AllPatterns.f (k : Nat) (a0 : Int) : Option ((List (List Int)) × Bool) := (spec_heSide.f a0).bind fun t128 => (if t128 = true then ((spec_loAll.f k a0 0).bind fun t129 => (some (t129, true))) else (some (([] : List (List Int)), false)))
set_option maxHeartbeats 8000000 in
set_option maxRecDepth 100000 in
theorem spec_AllPatterns.calls (k : Nat) (a0 : Int) (r1 : List (List Int)) (r2 : Bool) (w : World) (h : spec_AllPatterns.f k a0 = some (r1, r2)) :
  Calls Try.prog 10 #[.int .i64 a0] w fun e w' => ∃ v0_ : Value, e = .returned (.tuple #[v0_, .bool r2]) ∧ Kd.S (Kd.slice 3 (Kd.int .i64)) 28 w' w.heap.size (fun _ => True) v0_ r1 ∧ Below w.heap.size w w' := by
 have HB := Aside0.mk (Below.refl w.heap.size w)
 have H : ((spec_heSide.f a0).bind fun t128 => (if t128 = true then ((spec_loAll.f k a0 0).bind fun t129 => (some (t129, true))) else (some (([] : List (List Int)), false)))) = some (r1, r2) := h
 clear h
 replace H := Option.bind_eq_some_iff.mp H
 obtain ⟨t128, A20, H⟩ := H
 replace H : (if t128 = true then ((spec_loAll.f k a0 0).bind fun t129 => (some (t129, true))) else (some (([] : List (List Int)), false))) = some (r1, r2) := H
 have A2 := Aside0.mk A20
 clear A20
 by_cases c3 : t128 = true
 ·subst c3
  have H1 : ((spec_loAll.f k a0 0).bind fun t129 => (some (t129, true))) = some (r1, r2) := by rw [if_pos rfl] at H; exact H
  clear H
  have H := H1
  clear H1
  replace H := Option.bind_eq_some_iff.mp H
  obtain ⟨t129, A40, H⟩ := H
  replace H : (some (t129, true)) = some (r1, r2) := H
  have A4 := Aside0.mk A40
  clear A40
  simp only [Option.some.injEq, Prod.mk.injEq] at H
  obtain ⟨rfl, rfl⟩ := H
  go_enter Try.func10, Try.ntmps10
  go_wp2_with (first | ((with_reducible refine gate_callee (f := 36) rfl ?_); refine goesL_ (some 5) rfl rfl Try.func36 (by kernel_rfl) rfl #[.int .i64 a0] rfl (by (try simp only [List.map_toArray, List.map_cons, List.map_nil]); first | done | rfl | (simp only [List.length_drop, List.length_take]; rfl)) ?_; (with_reducible refine (spec_heSide.calls a0 true _ A2.out).mono ?_); rintro e w' ⟨rfl, ⟨nd, rfl⟩⟩; refine ⟨_, rfl, ?_⟩) | ((with_reducible refine gate_callee (f := 37) rfl ?_); refine goesL_ (some 8) rfl rfl Try.func37 (by kernel_rfl) rfl #[.int .i64 a0, .int .i64 0] rfl (by (try simp only [List.map_toArray, List.map_cons, List.map_nil]); first | done | rfl | (simp only [List.length_drop, List.length_take]; rfl)) ?_; (with_reducible refine (spec_loAll.calls k a0 0 t129 _ A4.out).mono ?_); rintro e w5 ⟨v130, rfl, ho0, hb⟩; refine ⟨_, rfl, ?_⟩; have n0_ := Aside0.mk (Kd.S_lower ho0 (below_size (by repeat (first | (with_reducible first | exact HB.out | apply below_alloc | apply pw_below_drewN | apply below_drew1) | exact HB.out)))); have n1_ := Aside0.mk (below_step (by repeat (first | (with_reducible first | exact HB.out | apply below_alloc | apply pw_below_drewN | apply below_drew1) | exact HB.out)) hb); clear HB; have HO131 := n0_; have HB := n1_; clear n0_ n1_; (try clear hb); (try clear hb2); (try clear hk); (try clear hi); (try clear ho0)))
  go_ret2
  exact ⟨_, by first | rfl | (simp [errW_none, errW_some] <;> rfl) | (simp [*, errW_none, errW_some] <;> rfl), by (with_reducible repeat (first | apply Kd.S_alloc | apply Kd.S_drewN | apply Kd.S_drew)); exact HO131.out, by repeat (first | (with_reducible first | exact HB.out | apply below_alloc | apply pw_below_drewN | apply below_drew1) | exact HB.out)⟩
 ·replace c3 := Bool.eq_false_iff.mpr c3
  subst c3
  have H1 : (some (([] : List (List Int)), false)) = some (r1, r2) := by rw [if_neg (show ¬ (false = true) by decide)] at H; exact H
  clear H
  have H := H1
  clear H1
  simp only [Option.some.injEq, Prod.mk.injEq] at H
  obtain ⟨rfl, rfl⟩ := H
  go_enter Try.func10, Try.ntmps10
  go_wp2_with (first | ((with_reducible refine gate_callee (f := 36) rfl ?_); refine goesL_ (some 5) rfl rfl Try.func36 (by kernel_rfl) rfl #[.int .i64 a0] rfl (by (try simp only [List.map_toArray, List.map_cons, List.map_nil]); first | done | rfl | (simp only [List.length_drop, List.length_take]; rfl)) ?_; (with_reducible refine (spec_heSide.calls a0 false _ A2.out).mono ?_); rintro e w' ⟨rfl, ⟨nd, rfl⟩⟩; refine ⟨_, rfl, ?_⟩))
  go_ret2
  exact ⟨_, by first | rfl | (simp [errW_none, errW_some] <;> rfl) | (simp [*, errW_none, errW_some] <;> rfl), by first | exact Kd.S_nil _ _ _ _ _ | exact Kd.N_nil _ _ _ _ _ | exact Kd.V_nil _ _ _ _ _ | exact Kd.Q_nil _ _ _ _ _ | exact Kd.R_nil _ _ _ _ _, by repeat (first | (with_reducible first | exact HB.out | apply below_alloc | apply pw_below_drewN | apply below_drew1) | exact HB.out)⟩

end Go.Proofs.Ythbkjaieenochaa.P

namespace Go.Proofs.Ythbkjaieenochaa.Law
open Go.RowKit Go.Proofs.Ythbkjaieenochaa Go.Proofs.Ythbkjaieenochaa.P Go.Proofs.Ythbkjaieenochaa.L Go.Proofs.YthbkjaieenochaaW.PrintWords Go.Proofs.YthbkjaieenochaaW.PrintLast Go.Proofs.YthbkjaieenochaaW.PrintMore

theorem in_eqA (a b c : Int) : spec_l1In.f a b c = some (inB a b c) := by
 unfold spec_l1In.f inB
 by_cases h : a ≥ b
 ·rw [if_pos h, decide_eq_true (show b ≤ a from h), Bool.true_and]
 ·rw [if_neg h, decide_eq_false (show ¬ b ≤ a from h), Bool.false_and]
theorem inB_nat {n : Int} (h : inB n 1 6 = true) : ∃ m : Nat, n = (m : Int) ∧ 1 ≤ m ∧ m ≤ 6 := by
 obtain ⟨h0, h1⟩ := (inB_iff n 1 6).1 h
 exact ⟨n.toNat, by omega, by omega, by omega⟩
theorem impl_AllPatterns_calls (n : Int) (w : World) : Calls Try.prog 11 #[.int .i64 n] w (RetTT w (if inB n 1 6 = true then paX n.toNat else []) (inB n 1 6)) := by
 have hw := fun W => impl_isSide.calls' n W
 cases hi : inB n 1 6 with
 | false =>
  rw [hi] at hw
  rw [if_neg (by simp)]
  clear hi
  go_enter Try.func11, Try.ntmps11
  go_wp2_with (go_at_call 38; refine (hw _).mono ?_; rintro e w1 ⟨rfl, hd⟩; have hb := hd.below; clear hd)
  go_ret2
  exact ⟨_, rfl, Kd.S_nil _ _ _ _ _, hb⟩
 | true =>
  rw [hi] at hw
  obtain ⟨m, rfl, h0, h1⟩ := inB_nat hi
  have HC := Aside0.mk (fun W => impl_patterns_calls m h0 h1 W)
  rw [if_pos rfl, show ((m : Int)).toNat = m from rfl]
  clear hi
  go_enter Try.func11, Try.ntmps11
  go_wp2_with (first | (go_at_call 38; refine (hw _).mono ?_; rintro e w1 ⟨rfl, hd⟩; have HB := Aside0.mk hd.below; clear hd) | (go_at_call 39; refine (HC.out _).mono ?_; rintro e w2 ⟨v, rfl, hS, hb⟩; have HS := Aside0.mk (Kd.S_lower hS HB.out.size); have HB2 := Aside0.mk (below_step HB.out hb); clear hS hb))
  go_ret2
  exact ⟨_, rfl, HS.out, HB2.out⟩
theorem spec_AllPatterns_ev (n : Int) : spec_AllPatterns.f 2000 n = some (if inB n 1 6 = true then paX n.toNat else [], inB n 1 6) := by
 unfold spec_AllPatterns.f spec_heSide.f
 rw [in_eqA]
 simp only [Option.bind_some]
 cases hi : inB n 1 6 with
 | false => rw [if_neg (by simp), if_neg (by simp)]
 | true =>
  obtain ⟨m, rfl, h0, h1⟩ := inB_nat hi
  rw [if_pos rfl, if_pos rfl, (pa_all h0 h1).2.2.1]
  rfl
theorem FnExactAllPatterns (n : Int) (_hx : (Lit.int .i64 n).wf = true) {W0 : World} (W : World) (_hW : W = W0) :
  Calls Try.prog 3 #[.int .i64 n] W fun e w' => e = .returned (.bool true) ∧ Below W.heap.size W w' := by
 refine lawAllPatterns n _ _ W ?_ (fun W' => (spec_AllPatterns.calls 2000 n _ _ W' (spec_AllPatterns_ev n)).mono fun e w' h => RetC.of_R (by obtain ⟨v, he, hS, hb⟩ := h; exact ⟨v, he, Kd.S_R hS, hb⟩)) (fun W' => impl_AllPatterns_calls n W')
 cases hi : inB n 1 6 with
 | false => exact ⟨by simp, fun r hr => by simp at hr⟩
 | true =>
  obtain ⟨m, rfl, h0, h1⟩ := inB_nat hi
  obtain ⟨_, _, _, h2, h3, _⟩ := pa_all h0 h1
  rw [if_pos rfl]
  exact ⟨by show (paX m).length ≤ _; omega, fun r hr => by have := of_decide_eq_true (List.all_eq_true.1 h3 r hr); omega⟩
end Go.Proofs.Ythbkjaieenochaa.Law
