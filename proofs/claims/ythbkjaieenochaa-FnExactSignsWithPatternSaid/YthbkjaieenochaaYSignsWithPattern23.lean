/- Texts of one chain, in build order. -/
import Derived.Test.YthbkjaieenochaaYSignsWithPattern22
namespace Go.Proofs.Ythbkjaieenochaa.P
open Go.RowKit Go.Proofs.YthbkjaieenochaaW.PrintWords Go.Proofs.YthbkjaieenochaaW.PrintLast Go.Proofs.YthbkjaieenochaaW.PrintMore
attribute [local go_sem] max2_int min2_int max_two min_two max_three min_three max_four min_four   -- for this text's walks alone
set_option linter.unusedVariables false
set_option linter.unusedSimpArgs false

mutual
def impl_IsPattern.j0 : Nat → List Int → Bool → Option (Bool)
 | 0, _, _ => none
 | k + 1, x0, x24 => if x24 = true then (some false) else (impl_IsPattern.l0 k x0 x0 (x0.length : Int) 0)
def impl_IsPattern.l0 : Nat → List Int → List Int → Int → Int → Option (Bool)
 | 0, _, _, _, _ => none
 | k + 1, x0, x25, x26, x27 => if x27 < x26 then (if 0 ≤ x27 then (if x27 < (x25.length : Int) then (if (rd x25 x27) = x27 then (impl_IsPattern.j2 k x0 x27 (rd x25 x27) x25 x26 x27 true) else (if 0 ≤ (rd x25 x27) then (if (rd x25 x27) < (x0.length : Int) then (impl_IsPattern.j2 k x0 x27 (rd x25 x27) x25 x26 x27 ((rd x0 (rd x25 x27)) != x27)) else (none)) else (none))) else (none)) else (none)) else (some true)
def impl_IsPattern.j2 : Nat → List Int → Int → Int → List Int → Int → Int → Bool → Option (Bool)
 | 0, _, _, _, _, _, _, _ => none
 | k + 1, x0, x3, x4, x25, x26, x27, x42 => if x42 = true then (some false) else (impl_IsPattern.l1 k x0 x3 x4 (wrap64 (x3 + 1)) x25 x26 x27)
def impl_IsPattern.l1 : Nat → List Int → Int → Int → Int → List Int → Int → Int → Option (Bool)
 | 0, _, _, _, _, _, _, _ => none
 | k + 1, x0, x3, x4, x5, x25, x26, x27 => if x5 < x4 then (if 0 ≤ x5 then (if x5 < (x0.length : Int) then ((impl_within.f (rd x0 x5) (wrap64 (x3 + 1)) (wrap64 (x4 - 1))).bind fun t683 => (if t683 = true then (impl_IsPattern.l1 k x0 x3 x4 (wrap64 (x5 + 1)) x25 x26 x27) else (some false))) else (none)) else (none)) else (impl_IsPattern.l0 k x0 x25 x26 (wrap64 (x27 + 1)))
end
def impl_IsPattern.f (k : Nat) (l0 : List Int) : Option (Bool) := if ((l0.length : Int) % 2) = 1 then (impl_IsPattern.j0 k l0 true) else ((impl_isSide.f (wrap64 ((l0.length : Int) / 2))).bind fun t678 => (if t678 = true then ((impl_areWithin.f l0 0 (wrap64 ((l0.length : Int) - 1))).bind fun t679 => (impl_IsPattern.j0 k l0 (!t679))) else (impl_IsPattern.j0 k l0 true)))
set_option maxHeartbeats 8000000 in
set_option maxRecDepth 100000 in
theorem impl_IsPattern.calls (k : Nat) (A0 : Option Addr) (c0 : Nat) (l0 : List Int) (r : Bool) (w : World) (hr0 : Kd.C (Kd.int .i64) w A0 l0.length l0) (hc0 : l0.length ≤ c0) (h : impl_IsPattern.f k l0 = some r) :
  Calls Try.prog 63 #[.slice A0 l0.length c0] w fun e w' => e = .returned (.bool r) ∧ Below w.heap.size w w' := by
 have HR0 := Aside0.mk hr0
 have HC0 := Aside0.mk hc0
 clear hr0 hc0
 have HB := Aside0.mk (Below.refl w.heap.size w)
 have H : (if ((l0.length : Int) % 2) = 1 then (impl_IsPattern.j0 k l0 true) else ((impl_isSide.f (wrap64 ((l0.length : Int) / 2))).bind fun t678 => (if t678 = true then ((impl_areWithin.f l0 0 (wrap64 ((l0.length : Int) - 1))).bind fun t679 => (impl_IsPattern.j0 k l0 (!t679))) else (impl_IsPattern.j0 k l0 true)))) = some r := h
 clear h
 have HC2 := Aside0.mk H
 clear H
 go_enter Try.func63, Try.ntmps63
 go_upto_region 1 with (fail)
 go_cut [24] (fun v24 wc => ∃ (kq : Nat) (x24_1 : Bool), v24 = .bool x24_1 ∧ Aside0 (impl_IsPattern.j0 kq l0 x24_1 = some r) ∧ Aside0 (kq ≤ k) ∧ Aside0 (Below w.heap.size w wc))
 case first =>
  have H := HC2.out
  clear HC2
  by_cases c3 : ((l0.length : Int) % 2) = 1
  ·rw [if_pos c3] at H
   have c3b0 : (((l0.length : Int) % 2) == 1) = true := beq_iff_eq.mpr c3
   have c3b1 : (((l0.length : Int) % 2) != 1) = false := bne_eq_false_iff_eq.mpr c3
   clear c3
   (try rw [c3b1])
   (first | rw [c3b0] | (simp only [i64_w, i32_w]; rw [c3b0]) | skip)
   have H' := Aside0.mk H
   clear H
   go_wp2
   go_meet
   case rel => exact ⟨_, (true), (by first | rfl | (simp; done) | (simp [*]; done)), H', ⟨by first | omega | exact Nat.le_refl _⟩, ⟨by repeat (first | (with_reducible first | exact HB.out | apply below_alloc | apply pw_below_drewN | apply below_drew1) | exact HB.out)⟩⟩
  ·rw [if_neg c3] at H
   have c3b0 : (((l0.length : Int) % 2) == 1) = false := beq_eq_false_iff_ne.mpr c3
   have c3b1 : (((l0.length : Int) % 2) != 1) = true := bne_iff_ne.mpr c3
   (try rw [c3b1])
   (first | rw [c3b0] | (simp only [i64_w, i32_w]; rw [c3b0]) | skip)
   replace H := Option.bind_eq_some_iff.mp H
   obtain ⟨t678, A40, H⟩ := H
   replace H : (if t678 = true then ((impl_areWithin.f l0 0 (wrap64 ((l0.length : Int) - 1))).bind fun t679 => (impl_IsPattern.j0 k l0 (!t679))) else (impl_IsPattern.j0 k l0 true)) = some r := H
   have A4 := Aside0.mk A40
   clear A40
   by_cases c5 : t678 = true
   ·subst c5
    have H1 : ((impl_areWithin.f l0 0 (wrap64 ((l0.length : Int) - 1))).bind fun t679 => (impl_IsPattern.j0 k l0 (!t679))) = some r := by rw [if_pos rfl] at H; exact H
    clear H
    have H := H1
    clear H1
    replace H := Option.bind_eq_some_iff.mp H
    obtain ⟨t679, A60, H⟩ := H
    replace H : (impl_IsPattern.j0 k l0 (!t679)) = some r := H
    have A6 := Aside0.mk A60
    clear A60
    have H' := Aside0.mk H
    clear H
    go_wp2_with (first | (go_at_call 38; (with_reducible refine (impl_isSide.calls (wrap64 ((l0.length : Int) / 2)) true _ A4.out).mono ?_); rintro e w' ⟨rfl, ⟨nd, rfl⟩⟩) | (go_at_call 94; (with_reducible refine (impl_areWithin.calls _ _ l0 0 (wrap64 ((l0.length : Int) - 1)) t679 _ ?side1 ?side2 A6.out).mono ?_); (case side1 => repeat (first | exact (Kd.C_below HR0.out (by repeat (first | (with_reducible first | exact HB.out | apply below_alloc | apply pw_below_drewN | apply below_drew1) | exact HB.out))) | (with_reducible refine Kd.C_alloc ?_ _) | (with_reducible refine Kd.C_drewN ?_ _) | (with_reducible refine Kd.C_drew ?_))); (case side2 => exact HC0.out); rintro e w7 ⟨rfl, hb⟩; have n0_ := Aside0.mk (below_step (by repeat (first | (with_reducible first | exact HB.out | apply below_alloc | apply pw_below_drewN | apply below_drew1) | exact HB.out)) hb); clear HB; have HB := n0_; clear n0_; (try clear hb); (try clear hb2); (try clear hk); (try clear hi)))
    go_meet
    case rel => exact ⟨_, (!t679), (by first | rfl | (simp; done) | (simp [*]; done)), H', ⟨by first | omega | exact Nat.le_refl _⟩, ⟨by repeat (first | (with_reducible first | exact HB.out | apply below_alloc | apply pw_below_drewN | apply below_drew1) | exact HB.out)⟩⟩
   ·replace c5 := Bool.eq_false_iff.mpr c5
    subst c5
    have H1 : (impl_IsPattern.j0 k l0 true) = some r := by rw [if_neg (show ¬ (false = true) by decide)] at H; exact H
    clear H
    have H := H1
    clear H1
    have H' := Aside0.mk H
    clear H
    go_wp2_with (first | (go_at_call 38; (with_reducible refine (impl_isSide.calls (wrap64 ((l0.length : Int) / 2)) false _ A4.out).mono ?_); rintro e w' ⟨rfl, ⟨nd, rfl⟩⟩))
    go_meet
    case rel => exact ⟨_, (true), (by first | rfl | (simp; done) | (simp [*]; done)), H', ⟨by first | omega | exact Nat.le_refl _⟩, ⟨by repeat (first | (with_reducible first | exact HB.out | apply below_alloc | apply pw_below_drewN | apply below_drew1) | exact HB.out)⟩⟩
 case rest =>
  clear HC2
  try clear p2
  try clear c3
  try clear c3b0
  try clear c3b1
  try clear c5
  try clear c6
  try clear p6
  obtain ⟨kq, x24_1, rfl, HA, HJ1, HB⟩ := hcut
  cases kq with
  | zero => exact absurd HA.out (by simp [impl_IsPattern.j0])
  | succ kj1 =>
   have H := HA.out
   clear HA
   simp only [impl_IsPattern.j0] at H
   by_cases c8 : x24_1 = true
   ·subst c8
    have H1 : (some false) = some r := by rw [if_pos rfl] at H; exact H
    clear H
    have H := H1
    clear H1
    obtain rfl := Option.some.inj H
    go_wp2
    go_ret
    exact ⟨by first | rfl | (simp [errW_none, errW_some] <;> rfl) | (simp [*, errW_none, errW_some] <;> rfl), by repeat (first | (with_reducible first | exact HB.out | apply below_alloc | apply pw_below_drewN | apply below_drew1) | exact HB.out)⟩
   ·replace c8 := Bool.eq_false_iff.mpr c8
    subst c8
    have H1 : (impl_IsPattern.l0 kj1 l0 l0 (l0.length : Int) 0) = some r := by rw [if_neg (show ¬ (false = true) by decide)] at H; exact H
    clear H
    have H := H1
    clear H1
    have H' := Aside0.mk H
    clear H
    go_wp2
    go_loopg [27] kj1 (fun kq v27 w' => ∃ (x27_2 : Int), v27 = .int .i64 x27_2 ∧ Aside0 (impl_IsPattern.l0 kq l0 l0 (l0.length : Int) x27_2 = some r) ∧ Aside0 (kq ≤ kj1) ∧ Aside0 (Below w.heap.size w w'))
    case atStart => exact ⟨(0), (by first | rfl | (simp; done) | (simp [*]; done)), H', ⟨Nat.le_refl _⟩, ⟨by repeat (first | (with_reducible first | exact HB.out | apply below_alloc | apply pw_below_drewN | apply below_drew1) | exact HB.out)⟩⟩
    case round =>
     clear H'
     try clear p2
     try clear c3
     try clear c3b0
     try clear c3b1
     try clear c5
     try clear c6
     try clear p6
     try clear c8
     try clear p2
     try clear p6
     obtain ⟨x27_2, rfl, HA, HK2, HB⟩ := hrel
     cases gk with
     | zero => exact absurd HA.out (by simp [impl_IsPattern.l0])
     | succ k2 =>
      have H := HA.out
      clear HA
      simp only [impl_IsPattern.l0] at H
      by_cases c9 : x27_2 < (l0.length : Int)
      ·rw [if_pos c9] at H
       have c9b0 : decide (x27_2 < (l0.length : Int)) = true := decide_eq_true c9
       clear c9
       by_cases c10 : 0 ≤ x27_2
       ·rw [if_pos c10] at H
        have c10b0 : decide (0 ≤ x27_2) = true := decide_eq_true c10
        clear c10
        by_cases c11 : x27_2 < (l0.length : Int)
        ·rw [if_pos c11] at H
         have c11b0 : decide (x27_2 < (l0.length : Int)) = true := decide_eq_true c11
         clear c11
         have HC12 := Aside0.mk H
         clear H
         have p680 : 0 ≤ (x27_2 : Int) := of_decide_eq_true (by first | (with_reducible assumption) | assumption)
         have q680 : x27_2 < (l0.length : Int) := of_decide_eq_true (by first | (with_reducible assumption) | assumption)
         obtain ⟨ad680, e680, hx680_0⟩ := Kd.at_int HR0.out x27_2 p680 q680
         cases e680
         (try replace hx680_0 := (HB.out.cell (World.block_lt_of_cell? w _ hx680_0)).trans hx680_0)
         replace p680 := eq_true p680
         replace q680 := eq_true q680
         go_upto_region 6 with (fail)
         go_cut [42] (fun v42 wc => ∃ (kq : Nat) (x42_11 : Bool), v42 = .bool x42_11 ∧ Aside0 (impl_IsPattern.j2 kq l0 x27_2 (rd l0 x27_2) l0 (l0.length : Int) x27_2 x42_11 = some r) ∧ Aside0 (kq ≤ k2) ∧ Aside0 (Below w.heap.size w wc))
         case first =>
          have H := HC12.out
          clear HC12
          by_cases c13 : (rd l0 x27_2) = x27_2
          ·rw [if_pos c13] at H
           have c13b0 : ((rd l0 x27_2) == x27_2) = true := beq_iff_eq.mpr c13
           have c13b1 : ((rd l0 x27_2) != x27_2) = false := bne_eq_false_iff_eq.mpr c13
           clear c13
           (try rw [c13b1])
           (first | rw [c13b0] | (simp only [i64_w, i32_w]; rw [c13b0]) | skip)
           have H' := Aside0.mk H
           clear H
           go_wp2
           go_meet
           case rel => exact ⟨_, (true), (by first | rfl | (simp; done) | (simp [*]; done)), H', ⟨by have := HJ1.out; have := HK2.out; first | omega | exact Nat.le_refl _⟩, ⟨by repeat (first | (with_reducible first | exact HB.out | apply below_alloc | apply pw_below_drewN | apply below_drew1) | exact HB.out)⟩⟩
          ·rw [if_neg c13] at H
           have c13b0 : ((rd l0 x27_2) == x27_2) = false := beq_eq_false_iff_ne.mpr c13
           have c13b1 : ((rd l0 x27_2) != x27_2) = true := bne_iff_ne.mpr c13
           (try rw [c13b1])
           (first | rw [c13b0] | (simp only [i64_w, i32_w]; rw [c13b0]) | skip)
           by_cases c14 : 0 ≤ (rd l0 x27_2)
           ·rw [if_pos c14] at H
            have c14b0 : decide (0 ≤ (rd l0 x27_2)) = true := decide_eq_true c14
            clear c14
            by_cases c15 : (rd l0 x27_2) < (l0.length : Int)
            ·rw [if_pos c15] at H
             have c15b0 : decide ((rd l0 x27_2) < (l0.length : Int)) = true := decide_eq_true c15
             clear c15
             have H' := Aside0.mk H
             clear H
             have p681 : 0 ≤ ((rd l0 x27_2) : Int) := of_decide_eq_true (by first | (with_reducible assumption) | assumption)
             have q681 : (rd l0 x27_2) < (l0.length : Int) := of_decide_eq_true (by first | (with_reducible assumption) | assumption)
             obtain ⟨ad681, e681, hx681_0⟩ := Kd.at_int HR0.out (rd l0 x27_2) p681 q681
             obtain rfl : ad680 = ad681 := (by injection e681)
             (try replace hx681_0 := (HB.out.cell (World.block_lt_of_cell? w _ hx681_0)).trans hx681_0)
             replace p681 := eq_true p681
             replace q681 := eq_true q681
             go_wp2
             go_meet
             case rel => exact ⟨_, (((rd l0 (rd l0 x27_2)) != x27_2)), (by first | rfl | (simp; done) | (simp [*]; done)), H', ⟨by have := HJ1.out; have := HK2.out; first | omega | exact Nat.le_refl _⟩, ⟨by repeat (first | (with_reducible first | exact HB.out | apply below_alloc | apply pw_below_drewN | apply below_drew1) | exact HB.out)⟩⟩
            ·rw [if_neg c15] at H
             exact absurd H (by simp)
           ·rw [if_neg c14] at H
            exact absurd H (by simp)
         case rest =>
          clear HC12
          try clear c1
          try clear p2
          try clear c3
          try clear c3b0
          try clear c3b1
          try clear c5
          try clear c6
          try clear p6
          try clear q6
          try clear hx6
          try clear c8
          try clear c9
          try clear c9b0
          try clear c10
          try clear c10b0
          try clear c11
          try clear c11b0
          try clear c13
          try clear c13b0
          try clear c13b1
          try clear c14
          try clear c14b0
          try clear c15
          try clear c15b0
          try clear hx680_0
          try clear hx681_0
          try clear p2
          try clear p6
          try clear p680
          try clear p681
          try clear q680
          try clear q681
          obtain ⟨kq, x42_11, rfl, HA, HJ11, HB⟩ := hcut
          cases kq with
          | zero => exact absurd HA.out (by simp [impl_IsPattern.j2])
          | succ kj11 =>
           have H := HA.out
           clear HA
           simp only [impl_IsPattern.j2] at H
           by_cases c16 : x42_11 = true
           ·subst c16
            have H1 : (some false) = some r := by rw [if_pos rfl] at H; exact H
            clear H
            have H := H1
            clear H1
            obtain rfl := Option.some.inj H
            go_wp2
            go_ret
            exact ⟨by first | rfl | (simp [errW_none, errW_some] <;> rfl) | (simp [*, errW_none, errW_some] <;> rfl), by repeat (first | (with_reducible first | exact HB.out | apply below_alloc | apply pw_below_drewN | apply below_drew1) | exact HB.out)⟩
           ·replace c16 := Bool.eq_false_iff.mpr c16
            subst c16
            have H1 : (impl_IsPattern.l1 kj11 l0 x27_2 (rd l0 x27_2) (wrap64 (x27_2 + 1)) l0 (l0.length : Int) x27_2) = some r := by rw [if_neg (show ¬ (false = true) by decide)] at H; exact H
            clear H
            have H := H1
            clear H1
            have H' := Aside0.mk H
            clear H
            go_wp2
            go_loopg [5] kj11 (fun kq v5 w' => ∃ (x5_4 : Int), v5 = .int .i64 x5_4 ∧ Aside0 (impl_IsPattern.l1 kq l0 x27_2 (rd l0 x27_2) x5_4 l0 (l0.length : Int) x27_2 = some r) ∧ Aside0 (kq ≤ kj11) ∧ Aside0 (Below w.heap.size w w'))
            case atStart => exact ⟨(wrap64 (x27_2 + 1)), (by first | rfl | (simp; done) | (simp [*]; done)), H', ⟨Nat.le_refl _⟩, ⟨by repeat (first | (with_reducible first | exact HB.out | apply below_alloc | apply pw_below_drewN | apply below_drew1) | exact HB.out)⟩⟩
            case round =>
             clear H'
             try clear c1
             try clear p2
             try clear c3
             try clear c3b0
             try clear c3b1
             try clear c5
             try clear c6
             try clear p6
             try clear q6
             try clear hx6
             try clear c8
             try clear c9
             try clear c9b0
             try clear c10
             try clear c10b0
             try clear c11
             try clear c11b0
             try clear c13
             try clear c13b0
             try clear c13b1
             try clear c14
             try clear c14b0
             try clear c15
             try clear c15b0
             try clear c16
             try clear hx680_0
             try clear hx681_0
             try clear p2
             try clear p6
             try clear p680
             try clear p681
             try clear q6
             try clear q680
             try clear q681
             obtain ⟨x5_4, rfl, HA, HK4, HB⟩ := hrel
             cases gk with
             | zero => exact absurd HA.out (by simp [impl_IsPattern.l1])
             | succ k4 =>
              have H := HA.out
              clear HA
              simp only [impl_IsPattern.l1] at H
              by_cases c17 : x5_4 < (rd l0 x27_2)
              ·rw [if_pos c17] at H
               have c17b0 : decide (x5_4 < (rd l0 x27_2)) = true := decide_eq_true c17
               clear c17
               by_cases c18 : 0 ≤ x5_4
               ·rw [if_pos c18] at H
                have c18b0 : decide (0 ≤ x5_4) = true := decide_eq_true c18
                clear c18
                by_cases c19 : x5_4 < (l0.length : Int)
                ·rw [if_pos c19] at H
                 have c19b0 : decide (x5_4 < (l0.length : Int)) = true := decide_eq_true c19
                 clear c19
                 replace H := Option.bind_eq_some_iff.mp H
                 obtain ⟨t683, A200, H⟩ := H
                 replace H : (if t683 = true then (impl_IsPattern.l1 k4 l0 x27_2 (rd l0 x27_2) (wrap64 (x5_4 + 1)) l0 (l0.length : Int) x27_2) else (some false)) = some r := H
                 have A20 := Aside0.mk A200
                 clear A200
                 by_cases c21 : t683 = true
                 ·subst c21
                  have H1 : (impl_IsPattern.l1 k4 l0 x27_2 (rd l0 x27_2) (wrap64 (x5_4 + 1)) l0 (l0.length : Int) x27_2) = some r := by rw [if_pos rfl] at H; exact H
                  clear H
                  have H := H1
                  clear H1
                  have H' := Aside0.mk H
                  clear H
                  have p682 : 0 ≤ (x5_4 : Int) := of_decide_eq_true (by first | (with_reducible assumption) | assumption)
                  have q682 : x5_4 < (l0.length : Int) := of_decide_eq_true (by first | (with_reducible assumption) | assumption)
                  obtain ⟨ad682, e682, hx682_0⟩ := Kd.at_int HR0.out x5_4 p682 q682
                  obtain rfl : ad680 = ad682 := (by injection e682)
                  (try replace hx682_0 := (HB.out.cell (World.block_lt_of_cell? w _ hx682_0)).trans hx682_0)
                  replace p682 := eq_true p682
                  replace q682 := eq_true q682
                  go_wp2_with (first | ((with_reducible refine gate_callee (f := 49) rfl ?_); refine goesL_ (some 58) rfl rfl Try.func49 (by kernel_rfl) rfl #[.int .i64 (rd l0 x5_4), .int .i64 (wrap64 (x27_2 + 1)), .int .i64 (wrap64 ((rd l0 x27_2) - 1))] rfl (by (try simp only [List.map_toArray, List.map_cons, List.map_nil]); first | done | rfl | (simp only [List.length_drop, List.length_take]; rfl)) ?_; (with_reducible refine (impl_within.calls (rd l0 x5_4) (wrap64 (x27_2 + 1)) (wrap64 ((rd l0 x27_2) - 1)) true _ A20.out).mono ?_); rintro e w' ⟨rfl, ⟨nd, rfl⟩⟩; refine ⟨_, rfl, ?_⟩))
                  go_roundg k4
                  case measure => have := HJ1.out; have := HK2.out; have := HJ11.out; have := HK4.out; omega
                  case rel => exact ⟨(wrap64 (x5_4 + 1)), (by first | rfl | (simp; done) | (simp [*]; done)), H', ⟨by have := HJ1.out; have := HK2.out; have := HJ11.out; have := HK4.out; omega⟩, ⟨by repeat (first | (with_reducible first | exact HB.out | apply below_alloc | apply pw_below_drewN | apply below_drew1) | exact HB.out)⟩⟩
                 ·replace c21 := Bool.eq_false_iff.mpr c21
                  subst c21
                  have H1 : (some false) = some r := by rw [if_neg (show ¬ (false = true) by decide)] at H; exact H
                  clear H
                  have H := H1
                  clear H1
                  obtain rfl := Option.some.inj H
                  have p682 : 0 ≤ (x5_4 : Int) := of_decide_eq_true (by first | (with_reducible assumption) | assumption)
                  have q682 : x5_4 < (l0.length : Int) := of_decide_eq_true (by first | (with_reducible assumption) | assumption)
                  obtain ⟨ad682, e682, hx682_0⟩ := Kd.at_int HR0.out x5_4 p682 q682
                  obtain rfl : ad680 = ad682 := (by injection e682)
                  (try replace hx682_0 := (HB.out.cell (World.block_lt_of_cell? w _ hx682_0)).trans hx682_0)
                  replace p682 := eq_true p682
                  replace q682 := eq_true q682
                  go_wp2_with (first | ((with_reducible refine gate_callee (f := 49) rfl ?_); refine goesL_ (some 58) rfl rfl Try.func49 (by kernel_rfl) rfl #[.int .i64 (rd l0 x5_4), .int .i64 (wrap64 (x27_2 + 1)), .int .i64 (wrap64 ((rd l0 x27_2) - 1))] rfl (by (try simp only [List.map_toArray, List.map_cons, List.map_nil]); first | done | rfl | (simp only [List.length_drop, List.length_take]; rfl)) ?_; (with_reducible refine (impl_within.calls (rd l0 x5_4) (wrap64 (x27_2 + 1)) (wrap64 ((rd l0 x27_2) - 1)) false _ A20.out).mono ?_); rintro e w' ⟨rfl, ⟨nd, rfl⟩⟩; refine ⟨_, rfl, ?_⟩))
                  go_ret
                  exact ⟨by first | rfl | (simp [errW_none, errW_some] <;> rfl) | (simp [*, errW_none, errW_some] <;> rfl), by repeat (first | (with_reducible first | exact HB.out | apply below_alloc | apply pw_below_drewN | apply below_drew1) | exact HB.out)⟩
                ·rw [if_neg c19] at H
                 exact absurd H (by simp)
               ·rw [if_neg c18] at H
                exact absurd H (by simp)
              ·rw [if_neg c17] at H
               have c17b0 : decide (x5_4 < (rd l0 x27_2)) = false := decide_eq_false c17
               clear c17
               have H' := Aside0.mk H
               clear H
               go_wp2
               go_roundg k4
               case measure => have := HJ1.out; have := HK2.out; have := HJ11.out; have := HK4.out; omega
               case rel => exact ⟨(wrap64 (x27_2 + 1)), (by first | rfl | (simp; done) | (simp [*]; done)), H', ⟨by have := HJ1.out; have := HK2.out; have := HJ11.out; have := HK4.out; omega⟩, ⟨by repeat (first | (with_reducible first | exact HB.out | apply below_alloc | apply pw_below_drewN | apply below_drew1) | exact HB.out)⟩⟩
        ·rw [if_neg c11] at H
         exact absurd H (by simp)
       ·rw [if_neg c10] at H
        exact absurd H (by simp)
      ·rw [if_neg c9] at H
       have c9b0 : decide (x27_2 < (l0.length : Int)) = false := decide_eq_false c9
       clear c9
       obtain rfl := Option.some.inj H
       go_wp2
       go_ret
       exact ⟨by first | rfl | (simp [errW_none, errW_some] <;> rfl) | (simp [*, errW_none, errW_some] <;> rfl), by repeat (first | (with_reducible first | exact HB.out | apply below_alloc | apply pw_below_drewN | apply below_drew1) | exact HB.out)⟩

end Go.Proofs.Ythbkjaieenochaa.P

namespace Go.Proofs.Ythbkjaieenochaa
open Go.RowKit Go.Proofs.Ythbkjaieenochaa.P Go.Proofs.YthbkjaieenochaaW.PrintWords Go.Proofs.YthbkjaieenochaaW.PrintLast Go.Proofs.YthbkjaieenochaaW.PrintMore
set_option linter.unusedVariables false
set_option linter.unusedSimpArgs false

set_option maxHeartbeats 2000000 in
theorem patterns_2.calls (x : List Int) (A : Option Addr) (c k : Nat) (W : World) (hx : impl_IsPattern.f k x = some true) (hC : Kd.C (Kd.int .i64) W A x.length x) (hc : x.length ≤ c) :
  Gives Try.prog 76 #[.slice A x.length c] W (.bool false) := by
 have hcon := impl_IsPattern.calls k A c x true W hC hc hx
 unfold Gives
 clear hC hc hx
 go_enter Try.func76, Try.ntmps76
 go_wp2_with (go_at_call 63; refine hcon.mono ?_; rintro e w' ⟨rfl, hb⟩; have HB := Aside0.mk hb; clear hb)
 go_ret
 exact ⟨rfl, HB.out⟩
end Go.Proofs.Ythbkjaieenochaa

namespace Go.Proofs.Ythbkjaieenochaa.P
open Go.RowKit Go.Proofs.YthbkjaieenochaaW.PrintWords Go.Proofs.YthbkjaieenochaaW.PrintLast Go.Proofs.YthbkjaieenochaaW.PrintMore
attribute [local go_sem] max2_int min2_int max_two min_two max_three min_three max_four min_four   -- for this text's walks alone
set_option linter.unusedVariables false
set_option linter.unusedSimpArgs false

mutual
def spec_loAll.l0 : Nat → Int → Int → List (List Int) → Int → Option ((List (List Int)))
 | 0, _, _, _, _ => none
 | k + 1, x0, x1, x5, x6 => if x6 < x0 then ((spec_loAll.f k x6 (wrap64 (x1 + 1))).bind fun t105 => (spec_loAll.l1 k x0 x1 x5 x6 t105 (t105.length : Int) 0)) else (some x5)
def spec_loAll.l1 : Nat → Int → Int → List (List Int) → Int → List (List Int) → Int → Int → Option ((List (List Int)))
 | 0, _, _, _, _, _, _, _ => none
 | k + 1, x0, x1, x5, x6, x23, x24, x25 => if x25 < x24 then (if 0 ≤ x25 then (if x25 < (x23.length : Int) then ((spec_loAll.f k (wrap64 ((wrap64 (x0 - 1)) - x6)) (wrap64 ((wrap64 (x1 + (wrap64 (2 * x6)))) + 2))).bind fun t109 => (spec_loAll.l2 k x0 x1 x5 x6 (rd_L1 x23 x25) x23 x24 x25 t109 (t109.length : Int) 0)) else (none)) else (none)) else (spec_loAll.l0 k x0 x1 x5 (wrap64 (x6 + 1)))
def spec_loAll.l2 : Nat → Int → Int → List (List Int) → Int → List Int → List (List Int) → Int → Int → List (List Int) → Int → Int → Option ((List (List Int)))
 | 0, _, _, _, _, _, _, _, _, _, _, _ => none
 | k + 1, x0, x1, x5, x6, x8, x23, x24, x25, x38, x39, x40 => if x40 < x39 then (if 0 ≤ x40 then (if x40 < (x38.length : Int) then ((some (([wrap64 ((wrap64 (x1 + (wrap64 (2 * x6)))) + 1)] : List Int) : List Int)).bind fun y113 => (if y113.length + x8.length < 17592186044416 then ((some (y113 ++ x8 : List Int)).bind fun y116 => (if y116.length < 17592186044416 then ((some (y116 ++ [x1] : List Int)).bind fun y119 => (if y119.length + (rd_L1 x38 x40).length < 17592186044416 then (if x5.length < 5864062014805 then (spec_loAll.l2 k x0 x1 (x5 ++ [(y119 ++ (rd_L1 x38 x40))]) x6 x8 x23 x24 x25 x38 x39 (wrap64 (x40 + 1))) else (none)) else (none))) else (none))) else (none))) else (none)) else (none)) else (spec_loAll.l1 k x0 x1 x5 x6 x23 x24 (wrap64 (x25 + 1)))
def spec_loAll.f : Nat → Int → Int → Option ((List (List Int)))
 | 0, _, _ => none
 | k + 1, a0, a1 => if a0 = 0 then (some (([[]] : List (List Int)))) else (spec_loAll.l0 k a0 a1 ([] : List (List Int)) 0)
end
end Go.Proofs.Ythbkjaieenochaa.P

namespace Go.Proofs.Ythbkjaieenochaa.L
open Go.RowKit Go.Proofs.Ythbkjaieenochaa Go.Proofs.Ythbkjaieenochaa.P Go.Proofs.YthbkjaieenochaaW.PrintWords Go.Proofs.YthbkjaieenochaaW.PrintLast Go.Proofs.YthbkjaieenochaaW.PrintMore
set_option linter.unusedVariables false
set_option maxRecDepth 100000

/-- All patterns of side n. -/
def paX (n : Nat) : List (List Int) := (jnE 200 (List.replicate (2 * n) (-1))).getD []
/-- What is to be said of them. -/
def PaOk (n : Nat) : Prop := bits_Mul.f 1 ((2 * n : Nat) : Int) = some (0, ((2 * n : Nat) : Int)) ∧ jnE 200 (List.replicate (2 * n) (-1)) = some (paX n) ∧ spec_loAll.f 2000 (n : Int) 0 = some (paX n) ∧ (paX n).length ≤ 200 ∧ ((paX n).all fun x => decide (x.length = 2 * n)) = true ∧ ((paX n).all fun x => decide (impl_IsPattern.f 1000 x = some true)) = true
instance (n : Nat) : Decidable (PaOk n) := by unfold PaOk; infer_instance
end Go.Proofs.Ythbkjaieenochaa.L

namespace Go.Proofs.Ythbkjaieenochaa.P
open Go.RowKit Go.Proofs.YthbkjaieenochaaW.PrintWords
def spec_weAdd.l0 : Nat → Int → List Int → Option (List Int)
 | 0, _, _ => none
 | k + 1, m, x => if (x.length : Int) ≤ m then (if x.length < 17592186044416 then spec_weAdd.l0 k m (x ++ [0]) else none) else (if 0 ≤ m then (if m < (x.length : Int) then some (x.set m.toNat (wrap64 (rd x m + 1))) else none) else none)
end Go.Proofs.Ythbkjaieenochaa.P

namespace Go.Proofs.Ythbkjaieenochaa
open Go.RowKit Go.Proofs.Ythbkjaieenochaa.P Go.Proofs.YthbkjaieenochaaW.PrintWords Go.Proofs.YthbkjaieenochaaW.PrintLast Go.Proofs.YthbkjaieenochaaW.PrintMore
set_option linter.unusedVariables false
set_option linter.unusedSimpArgs false

/-- The state of tally: the variable bo holds the counts. -/
def TySt (W0 : World) (B bo : Nat) (cs : Nat → List Int) (j : Nat) (W : World) (ok : Nat → Prop) : Prop :=
 ∃ v, (ok = fun k => k < W0.heap.size ∨ some k = v.ownBlock) ∧ W0.heap.size ≤ W.heap.size ∧ (∀ k, k < B → W.heap[k]? = W0.heap[k]?) ∧ W.heap[bo]? = some (.cells #[v] 28 (0, 0)) ∧ Kd.R (Kd.int .i64) 3 W B (fun k => k ≠ bo) v (cs j)
theorem heap_grew {W W' : World} {m : Nat} (h : m ≤ W.heap.size) (he : ∀ k, k < m → W'.heap[k]? = W.heap[k]?) : m ≤ W'.heap.size := by
 rcases Nat.eq_zero_or_pos m with h0 | h0
 ·omega
 ·have h1 := he (m - 1) (by omega)
  rw [Array.getElem?_eq_getElem (show m - 1 < W.heap.size by omega)] at h1
  have := (Array.getElem?_eq_some_iff.1 h1).1
  omega
theorem TySt.stays (W0 : World) (B bo : Nat) (cs : Nat → List Int) (hB : B ≤ bo) (hbo : bo < W0.heap.size) : Stays (TySt W0 B bo cs) := by
 refine ⟨?_, ?_⟩
 ·rintro j W ok ⟨v, rfl, hs, _, _, hR⟩ k hk
  rcases hk with h | h
  ·omega
  ·exact Kd.R_lt hR k h.symm
 ·rintro j W W' ok ⟨v, rfl, hs, hB2, hc, hR⟩ hm
  have hg := heap_grew hs (fun k hk => hm k (.inl hk))
  refine ⟨v, rfl, hg, fun k hk => (hm k (.inl (by omega))).trans (hB2 k hk), (hm bo (.inl hbo)).trans hc, ?_⟩
  exact Kd.R_mono (Kd.R_step (Kd.R_tight2 rfl hR) (fun k hk _ => hm k (.inr hk.1))) (fun k hk => hk.2)
theorem farUr {W : World} {g : Nat} {o : Obj} {p : Addr} {u : Value} (h : W.heap[g]? = some o) (hn : g ≠ p.block) : (W.setCell p u).heap[g]? = some o := (Below.heap_setCell W p u g hn).trans h
/-- The counts have been changed (a number appended or written). -/
theorem ty_app {W w4 : World} {B bo : Nat} {v v4 : Value} {x y : List Int} (hcell : W.heap[bo]? = some (.cells #[v] 28 (0, 0))) (hR : Kd.R (Kd.int .i64) 3 W B (fun k => k ≠ bo) v x)
  (hg : W.grownBy w4 v.ownBlock) (ho : Kd.R (Kd.int .i64) 3 w4 B (fun k => k ≠ bo) v4 y) (hat : v4.ownBlock = v.ownBlock ∨ ∃ b, v4.ownBlock = some b ∧ W.heap.size ≤ b) :
  w4.cell? ⟨bo, 0, none⟩ = some v ∧ w4.frozen? ⟨bo, 0, none⟩ = false ∧ (w4.setCell ⟨bo, 0, none⟩ v4).heap[bo]? = some (.cells #[v4] 28 (0, 0)) ∧ Kd.R (Kd.int .i64) 3 (w4.setCell ⟨bo, 0, none⟩ v4) B (fun k => k ≠ bo) v4 y ∧ Touch W (w4.setCell ⟨bo, 0, none⟩ v4) (tD bo v) ∧ (∀ k, some k = v4.ownBlock → some k = v.ownBlock ∨ W.heap.size ≤ k) := by
 have hv : ∀ k, some k = v.ownBlock → k ≠ bo := fun k e => hR.1 k e.symm
 have ht : Touch W w4 (fun k => some k = v.ownBlock) := ⟨hg.os, hg.tape, hg.output, hg.size, fun i hi hn => hg.block i hi hn⟩
 have h1 := ht.blk hcell (fun e => hv _ e rfl)
 refine ⟨blk_cell h1 0, blk_frozen h1 0, blk_put h1 0 v4 rfl, Kd.R_far ho (fun k hk => hk) v4, (ht.mono (fun k hk => .inr hk)).set ⟨bo, 0, none⟩ (.inl (.inl rfl)) v4, fun k hk => ?_⟩
 rcases hat with e | ⟨b, e, hle⟩
 ·exact .inl (hk.trans e)
 ·rw [e] at hk; injection hk with hk; exact .inr (by omega)
set_option maxHeartbeats 4000000 in
set_option maxRecDepth 100000 in
theorem tally_1.calls (W0 : World) (B bf bo gof : Nat) (lbof : Array Value) (cs : Nat → List Int) (All : List (List (List Int))) (ofv : List (List Int) → Int) (hbf : bf < B) (hB : B ≤ bo) (hbo : bo < W0.heap.size)
  (hfn : W0.heap[bf]? = some (.cells #[.func (.func gof) #[] lbof] 68 (0, 0)))
  (eg : ∀ args w, (callFunc gof args).run Try.prog w = .ok (.enter gof args) w)
  (hof : ∀ (T : List (List Int)) (A : Option Addr) (c : Nat) (W : World), T ∈ All → (∀ k, k < B → W.heap[k]? = W0.heap[k]?) → Kd.C (Kd.slice 3 (Kd.int .i64)) W A T.length T → T.length ≤ c → Calls Try.prog gof (#[.slice A T.length c] ++ lbof) W fun e w' => e = .returned (.int .i64 (ofv T)) ∧ Below W.heap.size W w')
  (hcs : ∀ (j : Nat) (T : List (List Int)), All[j]? = some T → 0 ≤ ofv T ∧ spec_weAdd.l0 1000 (ofv T) (cs j) = some (cs (j + 1)))
  (j : Nat) (T : List (List Int)) (A : Option Addr) (c : Nat) (W : World) (ok : Nat → Prop) (hT : All[j]? = some T) (hst : TySt W0 B bo cs j W ok) (hF : Kd.F (Kd.slice 3 (Kd.int .i64)) W (fun k => ¬ ok k ∧ k < W.heap.size) A T.length T) (hc : T.length ≤ c) :
  Calls Try.prog 98 (#[.slice A T.length c] ++ #[.pointer (some ⟨bf, 0, none⟩), .pointer (some ⟨bo, 0, none⟩)]) W (Stepped (TySt W0 B bo cs) (j + 1) W ok) := by
 obtain ⟨v0, rfl, hsz, hlow, hcell, hR⟩ := hst
 obtain ⟨hm0, hm1⟩ := hcs j T hT
 obtain ⟨m, hm⟩ : ∃ m, m = ofv T := ⟨_, rfl⟩
 have hcf := hof T A c W (List.mem_of_getElem? hT) hlow (Kd.F_now hF) hc
 rw [← hm] at hm0 hm1 hcf
 have hfw : W.heap[bf]? = some (.cells #[.func (.func gof) #[] lbof] 68 (0, 0)) := (hlow bf hbf).trans hfn
 have hk1 : W.cell? ⟨bf, 0, none⟩ = some (.func (.func gof) #[] lbof) := blk_cell hfw 0
 have HCF := Aside0.mk hcf
 have HM := Aside0.mk hm1
 have HCELL := Aside0.mk hcell
 have HR := Aside0.mk hR
 have HSZ := Aside0.mk hsz
 have HLOW := Aside0.mk hlow
 have HBW := Aside0.mk (show B ≤ W.heap.size by omega)
 obtain ⟨A0, c0, rfl⟩ := Kd.R_slice hR
 obtain ⟨r, hr⟩ : ∃ r, r = cs (j + 1) := ⟨_, rfl⟩
 have HRJ := Aside0.mk hr
 rw [← hr] at HM
 clear hof hcs hcf hm1 hcell hR hsz hlow hF hc hfn hT hfw hm hr
 go_enter Try.func98, Try.ntmps98
 go_wp2_with (go_at_fn gof; refine HCF.out.mono ?_; rintro e w1 ⟨rfl, hb⟩; have HB1 := Aside0.mk hb; clear hb)
 have HS := Aside0.mk (show ∀ k, tD bo (.slice A0 (cs j).length c0) k → B ≤ k from fun k hk => hk.elim (fun e => by omega) (fun e => Kd.R_base HR.out k e.symm))
 go_loopg [9] 1000 (fun kq v9 wr => ∃ (x : List Int) (v : Value), Aside0 (spec_weAdd.l0 kq m x = some r) ∧ Aside0 (wr.heap[bo]? = some (.cells #[v] 28 (0, 0))) ∧ Aside0 (Kd.R (Kd.int .i64) 3 wr B (fun k => k ≠ bo) v x) ∧ Aside0 (Touch W wr (tD bo (.slice A0 (cs j).length c0))) ∧ Aside0 (∀ k, some k = v.ownBlock → some k = (Value.slice A0 (cs j).length c0).ownBlock ∨ W.heap.size ≤ k))
 case atStart => exact ⟨cs j, _, HM, ⟨blk_below HCELL.out HB1.out⟩, ⟨Kd.R_below HR.out HB1.out⟩, ⟨Touch.of_below HB1.out _⟩, ⟨fun k h => .inl h⟩⟩
 case round =>
  clear HM HB1 HCF
  obtain ⟨x, v, HM, HCE, HRX, HT, HV⟩ := hrel
  cases gk with
  | zero => exact absurd HM.out (by simp [spec_weAdd.l0])
  | succ k3 =>
  have H := HM.out
  simp only [spec_weAdd.l0] at H
  clear HM
  obtain ⟨A1, c1, rfl⟩ := Kd.R_slice HRX.out
  have hk2 : wr.cell? ⟨bo, 0, none⟩ = some (.slice A1 x.length c1) := blk_cell HCE.out 0
  have HMB := Aside0.mk (show ∀ k, tD bo (.slice A1 x.length c1) k → tD bo (.slice A0 (cs j).length c0) k ∨ W.heap.size ≤ k from fun k hk => hk.elim (fun e => .inl (.inl e)) (fun e => (HV.out k e).elim (fun h => .inl (.inr h)) .inr))
  by_cases hle : (x.length : Int) ≤ m
  ·rw [if_pos hle] at H
   have hld : decide ((x.length : Int) ≤ m) = true := decide_eq_true hle
   split at H
   case isFalse => cases H
   rename_i hlen
   have HLEN := Aside0.mk hlen
   obtain ⟨y, hy⟩ : ∃ y, y = x ++ [0] := ⟨_, rfl⟩
   rw [← hy] at H
   have HY := Aside0.mk hy
   have HM := Aside0.mk H
   clear H hlen hy hle
   go_wp2_with (first | ((with_reducible refine gate_builtin (b := .append) (xs := #[.tmp 13, .tmp 14]) rfl ?_); at_builtin; refine Kd.R_append (Kd.int .i64) (w0 := W) B rfl (.tmp 13) (.tmp 14) 28 3 (.int .i64 0) 8 rfl Try.underlying28 info_ints rfl (by decide) (by omega) (.slice A1 x.length c1) x 0 [.int .i64 0] (fun k => k ≠ bo) (fun _ => False) rfl rfl ?aP (fun _ hk => hk.elim) ?aF ?aO ?aB ?aS ?aL ?_; (case aP => exact rfl); (case aB => exact HT.out.below HS.out HBW.out); (case aF => exact (fun k hk => by have := blk_lt HCE.out; omega)); (case aO => exact HRX.out); (case aS => exact Nat.le_trans HBW.out HT.out.size); (case aL => have := HLEN.out; omega); intro v8 w8 ho hb hg hat; rw [← HY.out] at ho; obtain ⟨A8, c8, rfl⟩ := Kd.R_slice ho; obtain ⟨hk8, hf8, he8, hs8, ht8, hv8⟩ := ty_app HCE.out HRX.out hg ho hat; have HE8 := Aside0.mk he8; have HS8 := Aside0.mk hs8; have HT8 := Aside0.mk ht8; have HV8 := Aside0.mk hv8; clear ho hb hg hat he8 hs8 ht8 hv8))
   go_roundg k3
   case measure => omega
   case rel => exact ⟨y, _, HM, HE8, HS8, ⟨HT.out.trans HT8.out HMB.out⟩, ⟨fun k hk => (HV8.out k hk).elim (fun e => HV.out k e) (fun e => .inr (by have := HT.out.size; omega))⟩⟩
  ·rw [if_neg hle] at H
   have hld : decide ((x.length : Int) ≤ m) = false := decide_eq_false hle
   rw [if_pos hm0] at H
   split at H
   case isFalse => cases H
   rename_i hmx
   obtain ⟨y, hy⟩ : ∃ y, y = x.set m.toNat (wrap64 (rd x m + 1)) := ⟨_, rfl⟩
   rw [← hy] at H
   have hyr := Option.some.inj H
   have HY := Aside0.mk hy
   have HYR := Aside0.mk hyr
   clear H hy hyr
   obtain ⟨g1, c2, e1, gb1, gl1, _, hg1⟩ := Kd.R_form HRX.out (by omega)
   cases e1
   have hcn := Kd.R_celln 0 HRX.out m hm0 hmx
   have hx := hcn.1
   have hfz := hcn.2
   have HP := Kd.R_putg HRX.out m (wrap64 (rd x m + 1))
   have HG1 := Aside0.mk HP.2
   have HPR := Aside0.mk HP.1
   clear HP hcn hg1
   have hne : bo ≠ g1 := fun e => (HRX.out.1 g1 rfl) e.symm
   have HCE2 := Aside0.mk (farUr HCE.out (p := ⟨g1, m.toNat, none⟩) (u := .int .i64 (wrap64 (rd x m + 1))) hne)
   have HT2 := Aside0.mk ((HT.out.trans (Touch.refl wr (fun k => some k = some g1)) (fun k e => (HV.out k e).imp .inr id)).set ⟨g1, m.toNat, none⟩ (by rcases HV.out g1 rfl with h | h; exact .inl (.inr h); exact .inr h) (.int .i64 (wrap64 (rd x m + 1))))
   go_wp2
   go_ret
   refine ⟨rfl, fun k => k < W0.heap.size ∨ some k = (Value.slice (some ⟨g1, 0, none⟩) x.length c1).ownBlock, ⟨_, rfl, ?_, ?_, HCE2.out, ?_⟩, HT2.out.mono (fun k hk => hk.elim (fun e => .inl (by omega)) .inr), fun k hk => hk.elim (fun h => .inl (.inl h)) (fun h => (HV.out k h).imp .inr id)⟩
   ·exact Nat.le_trans HSZ.out HT2.out.size
   ·intro k hk
    exact (HT2.out.heap (by have := HBW.out; omega) (fun h => by have := HS.out k h; omega)).trans (HLOW.out k hk)
   ·rw [← HRJ.out, ← HYR.out, HY.out]; exact HPR.out

end Go.Proofs.Ythbkjaieenochaa

namespace Go.Proofs.Ythbkjaieenochaa.P
open Go.RowKit Go.Proofs.YthbkjaieenochaaW.PrintWords Go.Proofs.YthbkjaieenochaaW.PrintLast Go.Proofs.YthbkjaieenochaaW.PrintMore
attribute [local go_sem] max2_int min2_int max_two min_two max_three min_three max_four min_four   -- for this text's walks alone
set_option linter.unusedVariables false
set_option linter.unusedSimpArgs false

def spec_l1In.f (a0 : Int) (a1 : Int) (a2 : Int) : Option (Bool) := if a0 ≥ a1 then (some (decide (a0 ≤ a2))) else (some false)
set_option maxHeartbeats 8000000 in
set_option maxRecDepth 100000 in
theorem spec_l1In.calls (a0 : Int) (a1 : Int) (a2 : Int) (r : Bool) (w : World) (h : spec_l1In.f a0 a1 a2 = some r) :
  Calls Try.prog 48 #[.int .i64 a0, .int .i64 a1, .int .i64 a2] w fun e w' => e = .returned (.bool r) ∧ Drawn0 w w' := by
 have H : (if a0 ≥ a1 then (some (decide (a0 ≤ a2))) else (some false)) = some r := h
 clear h
 by_cases c4 : a0 ≥ a1
 ·rw [if_pos c4] at H
  have c4b0 : decide (a1 ≤ a0) = true := decide_eq_true c4
  clear c4
  obtain rfl := Option.some.inj H
  go_enter Try.func48, Try.ntmps48
  go_wp2
  go_ret
  exact ⟨by first | rfl | (simp; done) | (simp [*]; done), by repeat (first | exact Drawn0.refl _ | apply Drawn0.step)⟩
 ·rw [if_neg c4] at H
  have c4b0 : decide (a1 ≤ a0) = false := decide_eq_false c4
  clear c4
  obtain rfl := Option.some.inj H
  go_enter Try.func48, Try.ntmps48
  go_wp2
  go_ret
  exact ⟨by first | rfl | (simp; done) | (simp [*]; done), by repeat (first | exact Drawn0.refl _ | apply Drawn0.step)⟩

end Go.Proofs.Ythbkjaieenochaa.P

namespace Go.Proofs.Ythbkjaieenochaa.L
open Go.RowKit Go.Proofs.Ythbkjaieenochaa Go.Proofs.Ythbkjaieenochaa.P Go.Proofs.YthbkjaieenochaaW.PrintWords Go.Proofs.YthbkjaieenochaaW.PrintLast Go.Proofs.YthbkjaieenochaaW.PrintMore

theorem l1In_eq (a b c : Int) : spec_l1In.f a b c = some (inB a b c) := by
 unfold spec_l1In.f inB
 by_cases h : a ≥ b
 ·rw [if_pos h]; simp [show b ≤ a from h]
 ·rw [if_neg h]; simp [show ¬ b ≤ a from h]
end Go.Proofs.Ythbkjaieenochaa.L
