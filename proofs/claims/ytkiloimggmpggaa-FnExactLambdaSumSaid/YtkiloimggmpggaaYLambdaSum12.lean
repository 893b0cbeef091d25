/- Texts of one chain, in build order. -/
import Derived.Test.YtkiloimggmpggaaYLambdaSum11
namespace Go.Proofs.Ytkiloimggmpggaa.P
open Go.RowKit Go.Proofs.YtkiloimggmpggaaW.PrintWords Go.Proofs.YtkiloimggmpggaaW.PrintLast Go.Proofs.YtkiloimggmpggaaW.PrintMore
attribute [local go_sem] max2_int min2_int max_two min_two max_three min_three max_four min_four   -- for this text's walks alone
set_option linter.unusedVariables false
set_option linter.unusedSimpArgs false

def spec_weSide.f (a0 : Int) : Option (Bool) := (spec_l1In.f a0 1 4).bind fun t103 => (some t103)
set_option maxHeartbeats 8000000 in
set_option maxRecDepth 100000 in
theorem spec_weSide.calls (a0 : Int) (r : Bool) (w : World) (h : spec_weSide.f a0 = some r) :
  Calls Try.prog 47 #[.int .i64 a0] w fun e w' => e = .returned (.bool r) ∧ Drawn0 w w' := by
 have H : ((spec_l1In.f a0 1 4).bind fun t103 => (some t103)) = some r := h
 clear h
 replace H := Option.bind_eq_some_iff.mp H
 obtain ⟨t103, A20, H⟩ := H
 replace H : (some t103) = some r := H
 have A2 := Aside0.mk A20
 clear A20
 obtain rfl := Option.some.inj H
 go_enter Try.func47, Try.ntmps47
 go_wp2_with (first | ((with_reducible refine gate_callee (f := 22) rfl ?_); refine goesL_ (some 4) rfl rfl Try.func22 (by kernel_rfl) rfl #[.int .i64 a0, .int .i64 1, .int .i64 4] rfl (by (try simp only [List.map_toArray, List.map_cons, List.map_nil]); first | done | rfl | (simp only [List.length_drop, List.length_take]; rfl)) ?_; (with_reducible refine (spec_l1In.calls a0 1 4 t103 _ A2.out).mono ?_); rintro e w' ⟨rfl, ⟨nd, rfl⟩⟩; refine ⟨_, rfl, ?_⟩))
 go_ret
 exact ⟨by first | rfl | (simp; done) | (simp [*]; done), by repeat (first | exact Drawn0.refl _ | apply Drawn0.step)⟩

end Go.Proofs.Ytkiloimggmpggaa.P

namespace Go.Proofs.Ytkiloimggmpggaa.P
open Go.RowKit Go.Proofs.YtkiloimggmpggaaW.PrintWords Go.Proofs.YtkiloimggmpggaaW.PrintLast Go.Proofs.YtkiloimggmpggaaW.PrintMore
attribute [local go_sem] max2_int min2_int max_two min_two max_three min_three max_four min_four   -- for this text's walks alone
set_option linter.unusedVariables false
set_option linter.unusedSimpArgs false

def spec_weTable.l0 : Nat → List (List Int) → List (List Int) → Int → Int → Option (Bool)
 | 0, _, _, _, _ => none
 | k + 1, x0, x9, x10, x11 => if x11 < x10 then (if 0 ≤ x11 then (if x11 < (x9.length : Int) then (if ((rd_L1 x9 x11).length : Int) = (x0.length : Int) then ((spec_l1All.f k (rd_L1 x9 x11) 1 4).bind fun t108 => (if t108 = true then (spec_weTable.l0 k x0 x9 x10 (wrap64 (x11 + 1))) else (some false))) else (some false)) else (none)) else (none)) else (some true)
def spec_weTable.f (k : Nat) (l0 : List (List Int)) : Option (Bool) := (spec_weSide.f (l0.length : Int)).bind fun t106 => (if t106 = true then (spec_weTable.l0 k l0 l0 (l0.length : Int) 0) else (some false))
set_option maxHeartbeats 8000000 in
set_option maxRecDepth 100000 in
theorem spec_weTable.calls (k : Nat) (A0 : Option Addr) (c0 : Nat) (l0 : List (List Int)) (r : Bool) (w : World) (hr0 : Kd.C (Kd.slice 3 (Kd.int .i64)) w A0 l0.length l0) (hc0 : l0.length ≤ c0) (h : spec_weTable.f k l0 = some r) :
  Calls Try.prog 21 #[.slice A0 l0.length c0] w fun e w' => e = .returned (.bool r) ∧ Drawn0 w w' := by
 have HR0 := Aside0.mk hr0
 have HC0 := Aside0.mk hc0
 clear hr0 hc0
 have H : ((spec_weSide.f (l0.length : Int)).bind fun t106 => (if t106 = true then (spec_weTable.l0 k l0 l0 (l0.length : Int) 0) else (some false))) = some r := h
 clear h
 replace H := Option.bind_eq_some_iff.mp H
 obtain ⟨t106, A20, H⟩ := H
 replace H : (if t106 = true then (spec_weTable.l0 k l0 l0 (l0.length : Int) 0) else (some false)) = some r := H
 have A2 := Aside0.mk A20
 clear A20
 by_cases c3 : t106 = true
 ·subst c3
  have H1 : (spec_weTable.l0 k l0 l0 (l0.length : Int) 0) = some r := by rw [if_pos rfl] at H; exact H
  clear H
  have H := H1
  clear H1
  have H' := Aside0.mk H
  clear H
  go_enter Try.func21, Try.ntmps21
  go_wp2_with (first | ((with_reducible refine gate_callee (f := 47) rfl ?_); refine goesL_ (some 7) rfl rfl Try.func47 (by kernel_rfl) rfl #[.int .i64 (l0.length : Int)] rfl (by (try simp only [List.map_toArray, List.map_cons, List.map_nil]); first | done | rfl | (simp only [List.length_drop, List.length_take]; rfl)) ?_; (with_reducible refine (spec_weSide.calls (l0.length : Int) true _ A2.out).mono ?_); rintro e w' ⟨rfl, ⟨nd, rfl⟩⟩; refine ⟨_, rfl, ?_⟩))
  go_loopg [11] k (fun kq v11 w' => ∃ (x11_1 : Int), v11 = .int .i64 x11_1 ∧ Aside0 (spec_weTable.l0 kq l0 l0 (l0.length : Int) x11_1 = some r) ∧ Aside0 (kq ≤ k) ∧ Drawn0 w w')
  case atStart => exact ⟨(0), (by first | rfl | (simp; done) | (simp [*]; done)), H', ⟨Nat.le_refl _⟩, by repeat (first | exact Drawn0.refl _ | apply Drawn0.step)⟩
  case round =>
   clear H'
   try clear c2
   try clear p2
   try clear c3
   obtain ⟨x11_1, rfl, HA, HK1, ⟨m1, rfl⟩⟩ := hrel
   cases gk with
   | zero => exact absurd HA.out (by simp [spec_weTable.l0])
   | succ k1 =>
    have H := HA.out
    clear HA
    simp only [spec_weTable.l0] at H
    by_cases c4 : x11_1 < (l0.length : Int)
    ·rw [if_pos c4] at H
     have c4b0 : decide (x11_1 < (l0.length : Int)) = true := decide_eq_true c4
     clear c4
     by_cases c5 : 0 ≤ x11_1
     ·rw [if_pos c5] at H
      have c5b0 : decide (0 ≤ x11_1) = true := decide_eq_true c5
      clear c5
      by_cases c6 : x11_1 < (l0.length : Int)
      ·rw [if_pos c6] at H
       have c6b0 : decide (x11_1 < (l0.length : Int)) = true := decide_eq_true c6
       clear c6
       by_cases c7 : ((rd_L1 l0 x11_1).length : Int) = (l0.length : Int)
       ·rw [if_pos c7] at H
        have c7b0 : (((rd_L1 l0 x11_1).length : Int) == (l0.length : Int)) = true := beq_iff_eq.mpr c7
        have c7b1 : (((rd_L1 l0 x11_1).length : Int) != (l0.length : Int)) = false := bne_eq_false_iff_eq.mpr c7
        have c7b2 : ((rd_L1 l0 x11_1).length == l0.length) = true := by first | simpa using c7 | (simp at c7 ⊢; omega)
        clear c7
        replace H := Option.bind_eq_some_iff.mp H
        obtain ⟨t108, A80, H⟩ := H
        replace H : (if t108 = true then (spec_weTable.l0 k1 l0 l0 (l0.length : Int) (wrap64 (x11_1 + 1))) else (some false)) = some r := H
        have A8 := Aside0.mk A80
        clear A80
        by_cases c9 : t108 = true
        ·subst c9
         have H1 : (spec_weTable.l0 k1 l0 l0 (l0.length : Int) (wrap64 (x11_1 + 1))) = some r := by rw [if_pos rfl] at H; exact H
         clear H
         have H := H1
         clear H1
         have H' := Aside0.mk H
         clear H
         have p107 : 0 ≤ (x11_1 : Int) := of_decide_eq_true (by first | (with_reducible assumption) | assumption)
         have q107 : x11_1 < (l0.length : Int) := of_decide_eq_true (by first | (with_reducible assumption) | assumption)
         obtain ⟨ad107, A107_0, c107_0, e107, hx107_0, hl107_0, hi107_0⟩ := at_L1 HR0.out x11_1 p107 q107
         cases e107
         have HR107_0 := Aside0.mk hi107_0
         have HC107_0 := Aside0.mk hl107_0
         clear hi107_0 hl107_0
         replace p107 := eq_true p107
         replace q107 := eq_true q107
         go_wp2_with (first | (go_at_call 48; (with_reducible refine (spec_l1All.calls k1 _ _ (rd_L1 l0 x11_1) 1 4 true _ ?side1 ?side2 A8.out).mono ?_); (case side1 => repeat (first | exact HR107_0.out | (with_reducible refine Kd.C_alloc ?_ _) | (with_reducible refine Kd.C_drewN ?_ _) | (with_reducible refine Kd.C_drew ?_))); (case side2 => exact HC107_0.out); rintro e w' ⟨rfl, ⟨nd, rfl⟩⟩))
         go_roundg k1
         case measure => have := HK1.out; omega
         case rel => exact ⟨(wrap64 (x11_1 + 1)), (by first | rfl | (simp; done) | (simp [*]; done)), H', ⟨by have := HK1.out; omega⟩, by repeat (first | exact Drawn0.refl _ | apply Drawn0.step)⟩
        ·replace c9 := Bool.eq_false_iff.mpr c9
         subst c9
         have H1 : (some false) = some r := by rw [if_neg (show ¬ (false = true) by decide)] at H; exact H
         clear H
         have H := H1
         clear H1
         obtain rfl := Option.some.inj H
         have p107 : 0 ≤ (x11_1 : Int) := of_decide_eq_true (by first | (with_reducible assumption) | assumption)
         have q107 : x11_1 < (l0.length : Int) := of_decide_eq_true (by first | (with_reducible assumption) | assumption)
         obtain ⟨ad107, A107_0, c107_0, e107, hx107_0, hl107_0, hi107_0⟩ := at_L1 HR0.out x11_1 p107 q107
         cases e107
         have HR107_0 := Aside0.mk hi107_0
         have HC107_0 := Aside0.mk hl107_0
         clear hi107_0 hl107_0
         replace p107 := eq_true p107
         replace q107 := eq_true q107
         go_wp2_with (first | (go_at_call 48; (with_reducible refine (spec_l1All.calls k1 _ _ (rd_L1 l0 x11_1) 1 4 false _ ?side1 ?side2 A8.out).mono ?_); (case side1 => repeat (first | exact HR107_0.out | (with_reducible refine Kd.C_alloc ?_ _) | (with_reducible refine Kd.C_drewN ?_ _) | (with_reducible refine Kd.C_drew ?_))); (case side2 => exact HC107_0.out); rintro e w' ⟨rfl, ⟨nd, rfl⟩⟩))
         go_ret
         exact ⟨by first | rfl | (simp; done) | (simp [*]; done), by repeat (first | exact Drawn0.refl _ | apply Drawn0.step)⟩
       ·rw [if_neg c7] at H
        have c7b0 : (((rd_L1 l0 x11_1).length : Int) == (l0.length : Int)) = false := beq_eq_false_iff_ne.mpr c7
        have c7b1 : (((rd_L1 l0 x11_1).length : Int) != (l0.length : Int)) = true := bne_iff_ne.mpr c7
        have c7b2 : ((rd_L1 l0 x11_1).length == l0.length) = false := by first | simpa using c7 | (simp at c7 ⊢; omega)
        obtain rfl := Option.some.inj H
        have p107 : 0 ≤ (x11_1 : Int) := of_decide_eq_true (by first | (with_reducible assumption) | assumption)
        have q107 : x11_1 < (l0.length : Int) := of_decide_eq_true (by first | (with_reducible assumption) | assumption)
        obtain ⟨ad107, A107_0, c107_0, e107, hx107_0, hl107_0, hi107_0⟩ := at_L1 HR0.out x11_1 p107 q107
        cases e107
        have HR107_0 := Aside0.mk hi107_0
        have HC107_0 := Aside0.mk hl107_0
        clear hi107_0 hl107_0
        replace p107 := eq_true p107
        replace q107 := eq_true q107
        go_wp2
        go_ret
        exact ⟨by first | rfl | (simp; done) | (simp [*]; done), by repeat (first | exact Drawn0.refl _ | apply Drawn0.step)⟩
      ·rw [if_neg c6] at H
       exact absurd H (by simp)
     ·rw [if_neg c5] at H
      exact absurd H (by simp)
    ·rw [if_neg c4] at H
     have c4b0 : decide (x11_1 < (l0.length : Int)) = false := decide_eq_false c4
     clear c4
     obtain rfl := Option.some.inj H
     go_wp2
     go_ret
     exact ⟨by first | rfl | (simp; done) | (simp [*]; done), by repeat (first | exact Drawn0.refl _ | apply Drawn0.step)⟩
 ·replace c3 := Bool.eq_false_iff.mpr c3
  subst c3
  have H1 : (some false) = some r := by rw [if_neg (show ¬ (false = true) by decide)] at H; exact H
  clear H
  have H := H1
  clear H1
  obtain rfl := Option.some.inj H
  go_enter Try.func21, Try.ntmps21
  go_wp2_with (first | ((with_reducible refine gate_callee (f := 47) rfl ?_); refine goesL_ (some 7) rfl rfl Try.func47 (by kernel_rfl) rfl #[.int .i64 (l0.length : Int)] rfl (by (try simp only [List.map_toArray, List.map_cons, List.map_nil]); first | done | rfl | (simp only [List.length_drop, List.length_take]; rfl)) ?_; (with_reducible refine (spec_weSide.calls (l0.length : Int) false _ A2.out).mono ?_); rintro e w' ⟨rfl, ⟨nd, rfl⟩⟩; refine ⟨_, rfl, ?_⟩))
  go_ret
  exact ⟨by first | rfl | (simp; done) | (simp [*]; done), by repeat (first | exact Drawn0.refl _ | apply Drawn0.step)⟩

end Go.Proofs.Ytkiloimggmpggaa.P

namespace Go.Proofs.Ytkiloimggmpggaa.L
open Go.RowKit Go.Proofs.Ytkiloimggmpggaa Go.Proofs.Ytkiloimggmpggaa.P Go.Proofs.YtkiloimggmpggaaW.PrintWords Go.Proofs.YtkiloimggmpggaaW.PrintLast Go.Proofs.YtkiloimggmpggaaW.PrintMore
set_option linter.unusedVariables false

theorem gcd_step (a b : Nat) (hb : 0 < b) : Nat.gcd b (a % b) = Nat.gcd a b := by
 rw [Nat.gcd_comm a b, Nat.gcd_rec b a, Nat.gcd_comm]
theorem tmod_nat (a b : Nat) : Int.tmod (a : Int) (b : Int) = ((a % b : Nat) : Int) := by
 rw [Int.tmod_eq_emod_of_nonneg (by omega)]; rfl
theorem tdiv_nat (a b : Nat) : Int.tdiv (a : Int) (b : Int) = ((a / b : Nat) : Int) := by
 rw [Int.tdiv_eq_ediv_of_nonneg (by omega)]; rfl
theorem common_ev : ∀ (b a : Nat), Ev (fun k => impl_common.l0 k a b) ((Nat.gcd a b : Nat) : Int) := by
 intro b
 induction b using Nat.strongRecOn with
 | _ b ih =>
  intro a
  refine Ev.step (fun k => by rw [impl_common.l0]) ?_
  by_cases hb : b = 0
  ·subst hb
   rw [Nat.gcd_zero_right]
   exact Ev.ite_neg (by omega) (Ev.now _)
  ·have hp : 0 < b := by omega
   refine Ev.ite_pos (by omega) (Ev.ite_neg (by omega) ?_)
   rw [tmod_nat, ← gcd_step a b hp]
   exact ih (a % b) (Nat.mod_lt _ hp) b
theorem sgGcd_ev : ∀ (b a : Nat), Ev (fun k => spec_sgGcd.f k a b) ((Nat.gcd a b : Nat) : Int) := by
 intro b
 induction b using Nat.strongRecOn with
 | _ b ih =>
  intro a
  refine Ev.step (fun k => by rw [spec_sgGcd.f]) ?_
  by_cases hb : b = 0
  ·subst hb
   rw [Nat.gcd_zero_right]
   exact Ev.ite_pos rfl (Ev.now _)
  ·have hp : 0 < b := by omega
   refine Ev.ite_neg (by omega) ?_
   rw [tmod_nat, ← gcd_step a b hp]
   exact Ev.bind (ih (a % b) (Nat.mod_lt _ hp) b) (Ev.now _)
theorem wrapN (a : Nat) (h : a ≤ 9223372036854775807) : wrap64 (a : Int) = (a : Int) := wrapI _ (by omega) (by omega)
theorem ratio_ev (n d : Nat) (hd : 0 < d) (bn : n ≤ 1000000000000000000) (bd : d ≤ 1000000000000000000) : Ev (fun k => impl_ratio.f k n d) (((n / Nat.gcd n d : Nat) : Int), ((d / Nat.gcd n d : Nat) : Int)) := by
 unfold impl_ratio.f impl_common.f
 have hg : 0 < Nat.gcd n d := Nat.gcd_pos_of_pos_right _ hd
 have h1 := Nat.div_le_self n (Nat.gcd n d)
 have h2 := Nat.div_le_self d (Nat.gcd n d)
 refine Ev.bind (common_ev d n) (Ev.ite_neg (by omega) ?_)
 rw [tdiv_nat, tdiv_nat, wrapN _ (by omega), wrapN _ (by omega)]
 exact Ev.now _
theorem weRatio_ev (n d : Nat) (hd : 0 < d) (bn : n ≤ 1000000000000000000) (bd : d ≤ 1000000000000000000) : Ev (fun k => spec_weRatio.f k n d) (((n / Nat.gcd n d : Nat) : Int), ((d / Nat.gcd n d : Nat) : Int)) := by
 unfold spec_weRatio.f
 have hg : 0 < Nat.gcd n d := Nat.gcd_pos_of_pos_right _ hd
 have h1 := Nat.div_le_self n (Nat.gcd n d)
 have h2 := Nat.div_le_self d (Nat.gcd n d)
 have ha : spec_l1Abs.f (n : Int) = some (n : Int) := by
  unfold spec_l1Abs.f spec_l1Most.f
  rw [wrapI (-(n : Int)) (by omega) (by omega)]
  by_cases h0 : (n : Int) > -(n : Int)
  ·simp [h0]
  ·have : n = 0 := by omega
   subst this; simp
 rw [ha]
 refine Ev.some_bind rfl (Ev.bind (sgGcd_ev d n) (Ev.ite_neg (by omega) ?_))
 rw [tdiv_nat, tdiv_nat, wrapN _ (by omega), wrapN _ (by omega)]
 exact Ev.now _
/-- A fraction without common divisors. -/
def redN (n d : Nat) : Int := ((n / Nat.gcd n d : Nat) : Int)
def redD (n d : Nat) : Int := ((d / Nat.gcd n d : Nat) : Int)
theorem times_nat (N D k : Nat) (hD : 0 < D) : let g := Nat.gcd N D; let q := Nat.gcd k (D / g); N / g * (k / q) = N * k / Nat.gcd (N * k) D ∧ D / g / q = D / Nat.gcd (N * k) D := by
 intro g q
 have hg : 0 < g := Nat.gcd_pos_of_pos_right _ hD
 obtain ⟨n, hn⟩ := Nat.gcd_dvd_left N D
 obtain ⟨d, hd⟩ := Nat.gcd_dvd_right N D
 have hN : N = g * n := hn
 have hDD : D = g * d := hd
 have hNg : N / g = n := by rw [hN, Nat.mul_div_cancel_left _ hg]
 have hDg : D / g = d := by rw [hDD, Nat.mul_div_cancel_left _ hg]
 have hc : Nat.Coprime n d := by rw [← hNg, ← hDg]; exact Nat.coprime_div_gcd_div_gcd hg
 have hq : q = Nat.gcd k d := by show Nat.gcd k (D / g) = _; rw [hDg]
 have hdp : 0 < d := Nat.pos_of_ne_zero (fun h => by rw [h, Nat.mul_zero] at hDD; omega)
 have hqp : 0 < q := by rw [hq]; exact Nat.gcd_pos_of_pos_right _ hdp
 have e : Nat.gcd (N * k) D = g * q := by
  rw [hq]
  have : Nat.gcd (N * k) D = Nat.gcd (g * (n * k)) (g * d) := by rw [← Nat.mul_assoc, ← hN, ← hDD]
  rw [this, Nat.gcd_mul_left, Nat.Coprime.gcd_mul_left_cancel _ hc]
 refine ⟨?_, ?_⟩
 ·rw [e, hNg]
  have : N * k / (g * q) = g * (n * k) / (g * q) := by rw [← Nat.mul_assoc, ← hN]
  rw [this, Nat.mul_div_mul_left _ _ hg, Nat.mul_div_assoc _ (by rw [hq]; exact Nat.gcd_dvd_left k d)]
 ·rw [e, Nat.div_div_eq_div_mul]
theorem over_nat (N D k : Nat) (hD : 0 < D) (hN0 : 0 < N) : let g := Nat.gcd N D; let q := Nat.gcd (N / g) k; N / g / q = N / Nat.gcd N (D * k) ∧ k / q * (D / g) = D * k / Nat.gcd N (D * k) := by
 intro g q
 have hg : 0 < g := Nat.gcd_pos_of_pos_right _ hD
 obtain ⟨n, hn⟩ := Nat.gcd_dvd_left N D
 obtain ⟨d, hd⟩ := Nat.gcd_dvd_right N D
 have hN : N = g * n := hn
 have hDD : D = g * d := hd
 have hNg : N / g = n := by rw [hN, Nat.mul_div_cancel_left _ hg]
 have hDg : D / g = d := by rw [hDD, Nat.mul_div_cancel_left _ hg]
 have hc : Nat.Coprime n d := by rw [← hNg, ← hDg]; exact Nat.coprime_div_gcd_div_gcd hg
 have hq : q = Nat.gcd n k := by show Nat.gcd (N / g) k = _; rw [hNg]
 have e : Nat.gcd N (D * k) = g * q := by
  rw [hq]
  have : Nat.gcd N (D * k) = Nat.gcd (g * n) (g * (d * k)) := by rw [← Nat.mul_assoc, ← hN, ← hDD]
  rw [this, Nat.gcd_mul_left, Nat.Coprime.gcd_mul_left_cancel_right _ hc.symm]
 refine ⟨?_, ?_⟩
 ·rw [e, Nat.div_div_eq_div_mul]
 ·rw [e, hDg]
  have : D * k / (g * q) = g * (d * k) / (g * q) := by rw [← Nat.mul_assoc, ← hDD]
  rw [this, Nat.mul_div_mul_left _ _ hg, Nat.mul_div_assoc _ (by rw [hq]; exact Nat.gcd_dvd_right n k), Nat.mul_comm]
theorem times_ev (N D k : Nat) (hN : 0 < N) (hD : 0 < D) (hk : 0 < k) (bN : N * k ≤ 1000000000000000000) (bD : D ≤ 1000000000000000000) (bk : k ≤ 100) : Ev (fun q => impl_Ratio_times.f q (redN N D) (redD N D) k 1) (redN (N * k) D, redD (N * k) D) := by
 unfold impl_Ratio_times.f redN redD
 have hg : 0 < Nat.gcd N D := Nat.gcd_pos_of_pos_right _ hD
 have hNk : N ≤ N * k := Nat.le_mul_of_pos_right _ hk
 have h1 := Nat.div_le_self N (Nat.gcd N D)
 have h2 := Nat.div_le_self D (Nat.gcd N D)
 have hdp : 0 < D / Nat.gcd N D := Nat.div_pos (Nat.le_of_dvd hD (Nat.gcd_dvd_right N D)) hg
 obtain ⟨e1, e2⟩ := times_nat N D k hD
 have r1 := ratio_ev (N / Nat.gcd N D) 1 (by omega) (by omega) (by omega)
 rw [Nat.gcd_one_right, Nat.div_one, Nat.div_one] at r1
 have r2 := ratio_ev k (D / Nat.gcd N D) hdp (by omega) (by omega)
 refine Ev.bind r1 (Ev.bind r2 ?_)
 have h3 := Nat.div_le_self (N * k) (Nat.gcd (N * k) D)
 have h4 := Nat.div_le_self D (Nat.gcd (N * k) D)
 have f1 : ((N / Nat.gcd N D : Nat) : Int) * ((k / Nat.gcd k (D / Nat.gcd N D) : Nat) : Int) = ((N * k / Nat.gcd (N * k) D : Nat) : Int) := by rw [← Int.natCast_mul]; exact congrArg _ e1
 have f2 : ((1 : Nat) : Int) * ((D / Nat.gcd N D / Nat.gcd k (D / Nat.gcd N D) : Nat) : Int) = ((D / Nat.gcd (N * k) D : Nat) : Int) := by rw [← Int.natCast_mul, Nat.one_mul]; exact congrArg _ e2
 rw [f1, f2, wrapN _ (by omega), wrapN _ (by omega)]
 exact Ev.now _
theorem over_ev (N D k : Nat) (hN : 0 < N) (hD : 0 < D) (hk : 0 < k) (bN : N ≤ 1000000000000000000) (bD : D * k ≤ 1000000000000000000) (bk : k ≤ 100) : Ev (fun q => impl_Ratio_over.f q (redN N D) (redD N D) k 1) (redN N (D * k), redD N (D * k)) := by
 have main : Ev (fun q => impl_Ratio_times.f q (redN N D) (redD N D) 1 k) (redN N (D * k), redD N (D * k)) := by
  unfold impl_Ratio_times.f redN redD
  have hg : 0 < Nat.gcd N D := Nat.gcd_pos_of_pos_right _ hD
  have hDk : D ≤ D * k := Nat.le_mul_of_pos_right _ hk
  have h1 := Nat.div_le_self N (Nat.gcd N D)
  have h2 := Nat.div_le_self D (Nat.gcd N D)
  have hdp : 0 < D / Nat.gcd N D := Nat.div_pos (Nat.le_of_dvd hD (Nat.gcd_dvd_right N D)) hg
  obtain ⟨e1, e2⟩ := over_nat N D k hD hN
  have r1 := ratio_ev (N / Nat.gcd N D) k hk (by omega) (by omega)
  have r2 := ratio_ev 1 (D / Nat.gcd N D) hdp (by omega) (by omega)
  rw [Nat.gcd_one_left, Nat.div_one, Nat.div_one] at r2
  refine Ev.bind r1 (Ev.bind r2 ?_)
  have h3 := Nat.div_le_self N (Nat.gcd N (D * k))
  have h4 := Nat.div_le_self (D * k) (Nat.gcd N (D * k))
  have f1 : ((N / Nat.gcd N D / Nat.gcd (N / Nat.gcd N D) k : Nat) : Int) * ((1 : Nat) : Int) = ((N / Nat.gcd N (D * k) : Nat) : Int) := by rw [← Int.natCast_mul, Nat.mul_one]; exact congrArg _ e1
  have f2 : ((k / Nat.gcd (N / Nat.gcd N D) k : Nat) : Int) * ((D / Nat.gcd N D : Nat) : Int) = ((D * k / Nat.gcd N (D * k) : Nat) : Int) := by rw [← Int.natCast_mul]; exact congrArg _ e2
  rw [f1, f2, wrapN _ (by omega), wrapN _ (by omega)]
  exact Ev.now _
 unfold impl_Ratio_over.f
 exact Ev.bind main (Ev.now _)
theorem four_pow (e : Nat) (h : e ≤ 16) : 4 ^ e ≤ 4294967296 := Nat.le_trans (Nat.pow_le_pow_right (by decide) h) (by decide)
theorem rows_all_and (l : List (List Int)) (p q : List Int → Bool) : (l.all p && l.all q) = l.all fun x => p x && q x := by
 induction l with
 | nil => rfl
 | cons a r ih => rw [List.all_cons, List.all_cons, List.all_cons, ← ih]; cases p a <;> cases q a <;> simp
theorem weTable_l0 (t : List (List Int)) (hf : fewRows t) : ∀ (d i : Nat), i + d = t.length → Ev (fun k => spec_weTable.l0 k t t t.length i) ((t.drop i).all fun r => (r.length == t.length) && r.all fun x => inB x 1 4) := by
 have hl := hf.1
 intro d
 induction d with
 | zero =>
  intro i hi
  refine Ev.step (fun k => by rw [spec_weTable.l0]) ?_
  rw [List.drop_eq_nil_of_le (by omega)]
  exact Ev.ite_neg (by omega) (Ev.now _)
 | succ d ih =>
  intro i hi
  have hlt : i < t.length := by omega
  have hr := hf.2 _ (List.getElem_mem hlt)
  refine Ev.step (fun k => by rw [spec_weTable.l0]) ?_
  rw [rd1_at t i hlt, List.drop_eq_getElem_cons hlt, List.all_cons, wrapS i (by omega)]
  refine Ev.ite_pos (by omega) (Ev.ite_pos (by omega) (Ev.ite_pos (by omega) ?_))
  by_cases h : t[i].length = t.length
  ·rw [beq_iff_eq.2 h, Bool.true_and]
   refine Ev.ite_pos (by omega) (Ev.bind (l1All_ev t[i] 1 4 (by omega)) ?_)
   cases hb : t[i].all fun x => inB x 1 4 with
   | false => exact Ev.ite_neg (by simp) (Ev.now _)
   | true => exact Ev.ite_pos rfl (ih (i + 1) (by omega))
  ·rw [beq_eq_false_iff_ne.2 h]
   exact Ev.ite_neg (by omega) (Ev.now _)
theorem weTable_ev (t : List (List Int)) (hf : fewRows t) : Ev (fun k => spec_weTable.f k t) (weightsB t) := by
 unfold spec_weTable.f spec_weSide.f weightsB squareB
 rw [l1In_eq, rows_all_and]
 refine Ev.some_bind rfl ?_
 cases h1 : inB (t.length : Int) 1 4 with
 | false => exact Ev.ite_neg (by simp) (Ev.now _)
 | true => exact Ev.ite_pos rfl (weTable_l0 t hf t.length 0 (by omega))
end Go.Proofs.Ytkiloimggmpggaa.L
