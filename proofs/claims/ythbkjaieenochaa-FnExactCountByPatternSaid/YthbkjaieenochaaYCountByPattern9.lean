/- Texts of one chain, in build order. -/
import Derived.Test.YthbkjaieenochaaYCountByPattern8
import Derived.Laws.EntriesVeiled
import Derived.Deep.RegionLawGrows
namespace Go.Proofs.Ythbkjaieenochaa.P
open Go.RowKit Go.Proofs.YthbkjaieenochaaW.PrintWords Go.Proofs.YthbkjaieenochaaW.PrintLast Go.Proofs.YthbkjaieenochaaW.PrintMore
attribute [local go_sem] max2_int min2_int max_two min_two max_three min_three max_four min_four   -- for this text's walks alone
set_option linter.unusedVariables false
set_option linter.unusedSimpArgs false

mutual
def impl_IsPattern.j0 : Nat → List Int → Bool → Option (Bool)
 | 0, _, _ => none
 | k + 1, x0, x24 => if x24 = true then (some false) else (impl_IsPattern.l0 k x0 x0 (x0.length : Int) 0)
def impl_IsPattern.l0 : Nat → List Int → List Int → Int → Int → Option (Bool)
 | 0, _, _, _, _ => none
 | k + 1, x0, x25, x26, x27 => if x27 < x26 then (if 0 ≤ x27 then (if x27 < (x25.length : Int) then (if (rd x25 x27) = x27 then (impl_IsPattern.j2 k x0 x27 (rd x25 x27) x25 x26 x27 true) else (if 0 ≤ (rd x25 x27) then (if (rd x25 x27) < (x0.length : Int) then (impl_IsPattern.j2 k x0 x27 (rd x25 x27) x25 x26 x27 ((rd x0 (rd x25 x27)) != x27)) else (none)) else (none))) else (none)) else (none)) else (some true)
def impl_IsPattern.j2 : Nat → List Int → Int → Int → List Int → Int → Int → Bool → Option (Bool)
 | 0, _, _, _, _, _, _, _ => none
 | k + 1, x0, x3, x4, x25, x26, x27, x42 => if x42 = true then (some false) else (impl_IsPattern.l1 k x0 x3 x4 (wrap64 (x3 + 1)) x25 x26 x27)
def impl_IsPattern.l1 : Nat → List Int → Int → Int → Int → List Int → Int → Int → Option (Bool)
 | 0, _, _, _, _, _, _, _ => none
 | k + 1, x0, x3, x4, x5, x25, x26, x27 => if x5 < x4 then (if 0 ≤ x5 then (if x5 < (x0.length : Int) then ((impl_within.f (rd x0 x5) (wrap64 (x3 + 1)) (wrap64 (x4 - 1))).bind fun t683 => (if t683 = true then (impl_IsPattern.l1 k x0 x3 x4 (wrap64 (x5 + 1)) x25 x26 x27) else (some false))) else (none)) else (none)) else (impl_IsPattern.l0 k x0 x25 x26 (wrap64 (x27 + 1)))
end
def impl_IsPattern.f (k : Nat) (l0 : List Int) : Option (Bool) := if ((l0.length : Int) % 2) = 1 then (impl_IsPattern.j0 k l0 true) else ((impl_isSide.f (wrap64 ((l0.length : Int) / 2))).bind fun t678 => (if t678 = true then ((impl_areWithin.f l0 0 (wrap64 ((l0.length : Int) - 1))).bind fun t679 => (impl_IsPattern.j0 k l0 (!t679))) else (impl_IsPattern.j0 k l0 true)))
set_option maxHeartbeats 8000000 in
set_option maxRecDepth 100000 in
theorem impl_IsPattern.calls (k : Nat) (A0 : Option Addr) (c0 : Nat) (l0 : List Int) (r : Bool) (w : World) (hr0 : Kd.C (Kd.int .i64) w A0 l0.length l0) (hc0 : l0.length ≤ c0) (h : impl_IsPattern.f k l0 = some r) :
  Calls Try.prog 63 #[.slice A0 l0.length c0] w fun e w' => e = .returned (.bool r) ∧ Below w.heap.size w w' := by
 have HR0 := Aside0.mk hr0
 have HC0 := Aside0.mk hc0
 clear hr0 hc0
 have HB := Aside0.mk (Below.refl w.heap.size w)
 have H : (if ((l0.length : Int) % 2) = 1 then (impl_IsPattern.j0 k l0 true) else ((impl_isSide.f (wrap64 ((l0.length : Int) / 2))).bind fun t678 => (if t678 = true then ((impl_areWithin.f l0 0 (wrap64 ((l0.length : Int) - 1))).bind fun t679 => (impl_IsPattern.j0 k l0 (!t679))) else (impl_IsPattern.j0 k l0 true)))) = some r := h
 clear h
 have HC2 := Aside0.mk H
 clear H
 go_enter Try.func63, Try.ntmps63
 go_upto_region 1 with (fail)
 go_cut [24] (fun v24 wc => ∃ (kq : Nat) (x24_1 : Bool), v24 = .bool x24_1 ∧ Aside0 (impl_IsPattern.j0 kq l0 x24_1 = some r) ∧ Aside0 (kq ≤ k) ∧ Aside0 (Below w.heap.size w wc))
 case first =>
  have H := HC2.out
  clear HC2
  by_cases c3 : ((l0.length : Int) % 2) = 1
  ·rw [if_pos c3] at H
   have c3b0 : (((l0.length : Int) % 2) == 1) = true := beq_iff_eq.mpr c3
   have c3b1 : (((l0.length : Int) % 2) != 1) = false := bne_eq_false_iff_eq.mpr c3
   clear c3
   (try rw [c3b1])
   (first | rw [c3b0] | (simp only [i64_w, i32_w]; rw [c3b0]) | skip)
   have H' := Aside0.mk H
   clear H
   go_wp2
   go_meet
   case rel => exact ⟨_, (true), (by first | rfl | (simp; done) | (simp [*]; done)), H', ⟨by first | omega | exact Nat.le_refl _⟩, ⟨by repeat (first | (with_reducible first | exact HB.out | apply below_alloc | apply pw_below_drewN | apply below_drew1) | exact HB.out)⟩⟩
  ·rw [if_neg c3] at H
   have c3b0 : (((l0.length : Int) % 2) == 1) = false := beq_eq_false_iff_ne.mpr c3
   have c3b1 : (((l0.length : Int) % 2) != 1) = true := bne_iff_ne.mpr c3
   (try rw [c3b1])
   (first | rw [c3b0] | (simp only [i64_w, i32_w]; rw [c3b0]) | skip)
   replace H := Option.bind_eq_some_iff.mp H
   obtain ⟨t678, A40, H⟩ := H
   replace H : (if t678 = true then ((impl_areWithin.f l0 0 (wrap64 ((l0.length : Int) - 1))).bind fun t679 => (impl_IsPattern.j0 k l0 (!t679))) else (impl_IsPattern.j0 k l0 true)) = some r := H
   have A4 := Aside0.mk A40
   clear A40
   by_cases c5 : t678 = true
   ·subst c5
    have H1 : ((impl_areWithin.f l0 0 (wrap64 ((l0.length : Int) - 1))).bind fun t679 => (impl_IsPattern.j0 k l0 (!t679))) = some r := by rw [if_pos rfl] at H; exact H
    clear H
    have H := H1
    clear H1
    replace H := Option.bind_eq_some_iff.mp H
    obtain ⟨t679, A60, H⟩ := H
    replace H : (impl_IsPattern.j0 k l0 (!t679)) = some r := H
    have A6 := Aside0.mk A60
    clear A60
    have H' := Aside0.mk H
    clear H
    go_wp2_with (first | (go_at_call 38; (with_reducible refine (impl_isSide.calls (wrap64 ((l0.length : Int) / 2)) true _ A4.out).mono ?_); rintro e w' ⟨rfl, ⟨nd, rfl⟩⟩) | (go_at_call 94; (with_reducible refine (impl_areWithin.calls _ _ l0 0 (wrap64 ((l0.length : Int) - 1)) t679 _ ?side1 ?side2 A6.out).mono ?_); (case side1 => repeat (first | exact (Kd.C_below HR0.out (by repeat (first | (with_reducible first | exact HB.out | apply below_alloc | apply pw_below_drewN | apply below_drew1) | exact HB.out))) | (with_reducible refine Kd.C_alloc ?_ _) | (with_reducible refine Kd.C_drewN ?_ _) | (with_reducible refine Kd.C_drew ?_))); (case side2 => exact HC0.out); rintro e w7 ⟨rfl, hb⟩; have n0_ := Aside0.mk (below_step (by repeat (first | (with_reducible first | exact HB.out | apply below_alloc | apply pw_below_drewN | apply below_drew1) | exact HB.out)) hb); clear HB; have HB := n0_; clear n0_; (try clear hb); (try clear hb2); (try clear hk); (try clear hi)))
    go_meet
    case rel => exact ⟨_, (!t679), (by first | rfl | (simp; done) | (simp [*]; done)), H', ⟨by first | omega | exact Nat.le_refl _⟩, ⟨by repeat (first | (with_reducible first | exact HB.out | apply below_alloc | apply pw_below_drewN | apply below_drew1) | exact HB.out)⟩⟩
   ·replace c5 := Bool.eq_false_iff.mpr c5
    subst c5
    have H1 : (impl_IsPattern.j0 k l0 true) = some r := by rw [if_neg (show ¬ (false = true) by decide)] at H; exact H
    clear H
    have H := H1
    clear H1
    have H' := Aside0.mk H
    clear H
    go_wp2_with (first | (go_at_call 38; (with_reducible refine (impl_isSide.calls (wrap64 ((l0.length : Int) / 2)) false _ A4.out).mono ?_); rintro e w' ⟨rfl, ⟨nd, rfl⟩⟩))
    go_meet
    case rel => exact ⟨_, (true), (by first | rfl | (simp; done) | (simp [*]; done)), H', ⟨by first | omega | exact Nat.le_refl _⟩, ⟨by repeat (first | (with_reducible first | exact HB.out | apply below_alloc | apply pw_below_drewN | apply below_drew1) | exact HB.out)⟩⟩
 case rest =>
  clear HC2
  try clear p2
  try clear c3
  try clear c3b0
  try clear c3b1
  try clear c5
  try clear c6
  try clear p6
  obtain ⟨kq, x24_1, rfl, HA, HJ1, HB⟩ := hcut
  cases kq with
  | zero => exact absurd HA.out (by simp [impl_IsPattern.j0])
  | succ kj1 =>
   have H := HA.out
   clear HA
   simp only [impl_IsPattern.j0] at H
   by_cases c8 : x24_1 = true
   ·subst c8
    have H1 : (some false) = some r := by rw [if_pos rfl] at H; exact H
    clear H
    have H := H1
    clear H1
    obtain rfl := Option.some.inj H
    go_wp2
    go_ret
    exact ⟨by first | rfl | (simp [errW_none, errW_some] <;> rfl) | (simp [*, errW_none, errW_some] <;> rfl), by repeat (first | (with_reducible first | exact HB.out | apply below_alloc | apply pw_below_drewN | apply below_drew1) | exact HB.out)⟩
   ·replace c8 := Bool.eq_false_iff.mpr c8
    subst c8
    have H1 : (impl_IsPattern.l0 kj1 l0 l0 (l0.length : Int) 0) = some r := by rw [if_neg (show ¬ (false = true) by decide)] at H; exact H
    clear H
    have H := H1
    clear H1
    have H' := Aside0.mk H
    clear H
    go_wp2
    go_loopg [27] kj1 (fun kq v27 w' => ∃ (x27_2 : Int), v27 = .int .i64 x27_2 ∧ Aside0 (impl_IsPattern.l0 kq l0 l0 (l0.length : Int) x27_2 = some r) ∧ Aside0 (kq ≤ kj1) ∧ Aside0 (Below w.heap.size w w'))
    case atStart => exact ⟨(0), (by first | rfl | (simp; done) | (simp [*]; done)), H', ⟨Nat.le_refl _⟩, ⟨by repeat (first | (with_reducible first | exact HB.out | apply below_alloc | apply pw_below_drewN | apply below_drew1) | exact HB.out)⟩⟩
    case round =>
     clear H'
     try clear p2
     try clear c3
     try clear c3b0
     try clear c3b1
     try clear c5
     try clear c6
     try clear p6
     try clear c8
     try clear p2
     try clear p6
     obtain ⟨x27_2, rfl, HA, HK2, HB⟩ := hrel
     cases gk with
     | zero => exact absurd HA.out (by simp [impl_IsPattern.l0])
     | succ k2 =>
      have H := HA.out
      clear HA
      simp only [impl_IsPattern.l0] at H
      by_cases c9 : x27_2 < (l0.length : Int)
      ·rw [if_pos c9] at H
       have c9b0 : decide (x27_2 < (l0.length : Int)) = true := decide_eq_true c9
       clear c9
       by_cases c10 : 0 ≤ x27_2
       ·rw [if_pos c10] at H
        have c10b0 : decide (0 ≤ x27_2) = true := decide_eq_true c10
        clear c10
        by_cases c11 : x27_2 < (l0.length : Int)
        ·rw [if_pos c11] at H
         have c11b0 : decide (x27_2 < (l0.length : Int)) = true := decide_eq_true c11
         clear c11
         have HC12 := Aside0.mk H
         clear H
         have p680 : 0 ≤ (x27_2 : Int) := of_decide_eq_true (by first | (with_reducible assumption) | assumption)
         have q680 : x27_2 < (l0.length : Int) := of_decide_eq_true (by first | (with_reducible assumption) | assumption)
         obtain ⟨ad680, e680, hx680_0⟩ := Kd.at_int HR0.out x27_2 p680 q680
         cases e680
         (try replace hx680_0 := (HB.out.cell (World.block_lt_of_cell? w _ hx680_0)).trans hx680_0)
         replace p680 := eq_true p680
         replace q680 := eq_true q680
         go_upto_region 6 with (fail)
         go_cut [42] (fun v42 wc => ∃ (kq : Nat) (x42_11 : Bool), v42 = .bool x42_11 ∧ Aside0 (impl_IsPattern.j2 kq l0 x27_2 (rd l0 x27_2) l0 (l0.length : Int) x27_2 x42_11 = some r) ∧ Aside0 (kq ≤ k2) ∧ Aside0 (Below w.heap.size w wc))
         case first =>
          have H := HC12.out
          clear HC12
          by_cases c13 : (rd l0 x27_2) = x27_2
          ·rw [if_pos c13] at H
           have c13b0 : ((rd l0 x27_2) == x27_2) = true := beq_iff_eq.mpr c13
           have c13b1 : ((rd l0 x27_2) != x27_2) = false := bne_eq_false_iff_eq.mpr c13
           clear c13
           (try rw [c13b1])
           (first | rw [c13b0] | (simp only [i64_w, i32_w]; rw [c13b0]) | skip)
           have H' := Aside0.mk H
           clear H
           go_wp2
           go_meet
           case rel => exact ⟨_, (true), (by first | rfl | (simp; done) | (simp [*]; done)), H', ⟨by have := HJ1.out; have := HK2.out; first | omega | exact Nat.le_refl _⟩, ⟨by repeat (first | (with_reducible first | exact HB.out | apply below_alloc | apply pw_below_drewN | apply below_drew1) | exact HB.out)⟩⟩
          ·rw [if_neg c13] at H
           have c13b0 : ((rd l0 x27_2) == x27_2) = false := beq_eq_false_iff_ne.mpr c13
           have c13b1 : ((rd l0 x27_2) != x27_2) = true := bne_iff_ne.mpr c13
           (try rw [c13b1])
           (first | rw [c13b0] | (simp only [i64_w, i32_w]; rw [c13b0]) | skip)
           by_cases c14 : 0 ≤ (rd l0 x27_2)
           ·rw [if_pos c14] at H
            have c14b0 : decide (0 ≤ (rd l0 x27_2)) = true := decide_eq_true c14
            clear c14
            by_cases c15 : (rd l0 x27_2) < (l0.length : Int)
            ·rw [if_pos c15] at H
             have c15b0 : decide ((rd l0 x27_2) < (l0.length : Int)) = true := decide_eq_true c15
             clear c15
             have H' := Aside0.mk H
             clear H
             have p681 : 0 ≤ ((rd l0 x27_2) : Int) := of_decide_eq_true (by first | (with_reducible assumption) | assumption)
             have q681 : (rd l0 x27_2) < (l0.length : Int) := of_decide_eq_true (by first | (with_reducible assumption) | assumption)
             obtain ⟨ad681, e681, hx681_0⟩ := Kd.at_int HR0.out (rd l0 x27_2) p681 q681
             obtain rfl : ad680 = ad681 := (by injection e681)
             (try replace hx681_0 := (HB.out.cell (World.block_lt_of_cell? w _ hx681_0)).trans hx681_0)
             replace p681 := eq_true p681
             replace q681 := eq_true q681
             go_wp2
             go_meet
             case rel => exact ⟨_, (((rd l0 (rd l0 x27_2)) != x27_2)), (by first | rfl | (simp; done) | (simp [*]; done)), H', ⟨by have := HJ1.out; have := HK2.out; first | omega | exact Nat.le_refl _⟩, ⟨by repeat (first | (with_reducible first | exact HB.out | apply below_alloc | apply pw_below_drewN | apply below_drew1) | exact HB.out)⟩⟩
            ·rw [if_neg c15] at H
             exact absurd H (by simp)
           ·rw [if_neg c14] at H
            exact absurd H (by simp)
         case rest =>
          clear HC12
          try clear c1
          try clear p2
          try clear c3
          try clear c3b0
          try clear c3b1
          try clear c5
          try clear c6
          try clear p6
          try clear q6
          try clear hx6
          try clear c8
          try clear c9
          try clear c9b0
          try clear c10
          try clear c10b0
          try clear c11
          try clear c11b0
          try clear c13
          try clear c13b0
          try clear c13b1
          try clear c14
          try clear c14b0
          try clear c15
          try clear c15b0
          try clear hx680_0
          try clear hx681_0
          try clear p2
          try clear p6
          try clear p680
          try clear p681
          try clear q680
          try clear q681
          obtain ⟨kq, x42_11, rfl, HA, HJ11, HB⟩ := hcut
          cases kq with
          | zero => exact absurd HA.out (by simp [impl_IsPattern.j2])
          | succ kj11 =>
           have H := HA.out
           clear HA
           simp only [impl_IsPattern.j2] at H
           by_cases c16 : x42_11 = true
           ·subst c16
            have H1 : (some false) = some r := by rw [if_pos rfl] at H; exact H
            clear H
            have H := H1
            clear H1
            obtain rfl := Option.some.inj H
            go_wp2
            go_ret
            exact ⟨by first | rfl | (simp [errW_none, errW_some] <;> rfl) | (simp [*, errW_none, errW_some] <;> rfl), by repeat (first | (with_reducible first | exact HB.out | apply below_alloc | apply pw_below_drewN | apply below_drew1) | exact HB.out)⟩
           ·replace c16 := Bool.eq_false_iff.mpr c16
            subst c16
            have H1 : (impl_IsPattern.l1 kj11 l0 x27_2 (rd l0 x27_2) (wrap64 (x27_2 + 1)) l0 (l0.length : Int) x27_2) = some r := by rw [if_neg (show ¬ (false = true) by decide)] at H; exact H
            clear H
            have H := H1
            clear H1
            have H' := Aside0.mk H
            clear H
            go_wp2
            go_loopg [5] kj11 (fun kq v5 w' => ∃ (x5_4 : Int), v5 = .int .i64 x5_4 ∧ Aside0 (impl_IsPattern.l1 kq l0 x27_2 (rd l0 x27_2) x5_4 l0 (l0.length : Int) x27_2 = some r) ∧ Aside0 (kq ≤ kj11) ∧ Aside0 (Below w.heap.size w w'))
            case atStart => exact ⟨(wrap64 (x27_2 + 1)), (by first | rfl | (simp; done) | (simp [*]; done)), H', ⟨Nat.le_refl _⟩, ⟨by repeat (first | (with_reducible first | exact HB.out | apply below_alloc | apply pw_below_drewN | apply below_drew1) | exact HB.out)⟩⟩
            case round =>
             clear H'
             try clear c1
             try clear p2
             try clear c3
             try clear c3b0
             try clear c3b1
             try clear c5
             try clear c6
             try clear p6
             try clear q6
             try clear hx6
             try clear c8
             try clear c9
             try clear c9b0
             try clear c10
             try clear c10b0
             try clear c11
             try clear c11b0
             try clear c13
             try clear c13b0
             try clear c13b1
             try clear c14
             try clear c14b0
             try clear c15
             try clear c15b0
             try clear c16
             try clear hx680_0
             try clear hx681_0
             try clear p2
             try clear p6
             try clear p680
             try clear p681
             try clear q6
             try clear q680
             try clear q681
             obtain ⟨x5_4, rfl, HA, HK4, HB⟩ := hrel
             cases gk with
             | zero => exact absurd HA.out (by simp [impl_IsPattern.l1])
             | succ k4 =>
              have H := HA.out
              clear HA
              simp only [impl_IsPattern.l1] at H
              by_cases c17 : x5_4 < (rd l0 x27_2)
              ·rw [if_pos c17] at H
               have c17b0 : decide (x5_4 < (rd l0 x27_2)) = true := decide_eq_true c17
               clear c17
               by_cases c18 : 0 ≤ x5_4
               ·rw [if_pos c18] at H
                have c18b0 : decide (0 ≤ x5_4) = true := decide_eq_true c18
                clear c18
                by_cases c19 : x5_4 < (l0.length : Int)
                ·rw [if_pos c19] at H
                 have c19b0 : decide (x5_4 < (l0.length : Int)) = true := decide_eq_true c19
                 clear c19
                 replace H := Option.bind_eq_some_iff.mp H
                 obtain ⟨t683, A200, H⟩ := H
                 replace H : (if t683 = true then (impl_IsPattern.l1 k4 l0 x27_2 (rd l0 x27_2) (wrap64 (x5_4 + 1)) l0 (l0.length : Int) x27_2) else (some false)) = some r := H
                 have A20 := Aside0.mk A200
                 clear A200
                 by_cases c21 : t683 = true
                 ·subst c21
                  have H1 : (impl_IsPattern.l1 k4 l0 x27_2 (rd l0 x27_2) (wrap64 (x5_4 + 1)) l0 (l0.length : Int) x27_2) = some r := by rw [if_pos rfl] at H; exact H
                  clear H
                  have H := H1
                  clear H1
                  have H' := Aside0.mk H
                  clear H
                  have p682 : 0 ≤ (x5_4 : Int) := of_decide_eq_true (by first | (with_reducible assumption) | assumption)
                  have q682 : x5_4 < (l0.length : Int) := of_decide_eq_true (by first | (with_reducible assumption) | assumption)
                  obtain ⟨ad682, e682, hx682_0⟩ := Kd.at_int HR0.out x5_4 p682 q682
                  obtain rfl : ad680 = ad682 := (by injection e682)
                  (try replace hx682_0 := (HB.out.cell (World.block_lt_of_cell? w _ hx682_0)).trans hx682_0)
                  replace p682 := eq_true p682
                  replace q682 := eq_true q682
                  go_wp2_with (first | ((with_reducible refine gate_callee (f := 49) rfl ?_); refine goesL_ (some 58) rfl rfl Try.func49 (by kernel_rfl) rfl #[.int .i64 (rd l0 x5_4), .int .i64 (wrap64 (x27_2 + 1)), .int .i64 (wrap64 ((rd l0 x27_2) - 1))] rfl (by (try simp only [List.map_toArray, List.map_cons, List.map_nil]); first | done | rfl | (simp only [List.length_drop, List.length_take]; rfl)) ?_; (with_reducible refine (impl_within.calls (rd l0 x5_4) (wrap64 (x27_2 + 1)) (wrap64 ((rd l0 x27_2) - 1)) true _ A20.out).mono ?_); rintro e w' ⟨rfl, ⟨nd, rfl⟩⟩; refine ⟨_, rfl, ?_⟩))
                  go_roundg k4
                  case measure => have := HJ1.out; have := HK2.out; have := HJ11.out; have := HK4.out; omega
                  case rel => exact ⟨(wrap64 (x5_4 + 1)), (by first | rfl | (simp; done) | (simp [*]; done)), H', ⟨by have := HJ1.out; have := HK2.out; have := HJ11.out; have := HK4.out; omega⟩, ⟨by repeat (first | (with_reducible first | exact HB.out | apply below_alloc | apply pw_below_drewN | apply below_drew1) | exact HB.out)⟩⟩
                 ·replace c21 := Bool.eq_false_iff.mpr c21
                  subst c21
                  have H1 : (some false) = some r := by rw [if_neg (show ¬ (false = true) by decide)] at H; exact H
                  clear H
                  have H := H1
                  clear H1
                  obtain rfl := Option.some.inj H
                  have p682 : 0 ≤ (x5_4 : Int) := of_decide_eq_true (by first | (with_reducible assumption) | assumption)
                  have q682 : x5_4 < (l0.length : Int) := of_decide_eq_true (by first | (with_reducible assumption) | assumption)
                  obtain ⟨ad682, e682, hx682_0⟩ := Kd.at_int HR0.out x5_4 p682 q682
                  obtain rfl : ad680 = ad682 := (by injection e682)
                  (try replace hx682_0 := (HB.out.cell (World.block_lt_of_cell? w _ hx682_0)).trans hx682_0)
                  replace p682 := eq_true p682
                  replace q682 := eq_true q682
                  go_wp2_with (first | ((with_reducible refine gate_callee (f := 49) rfl ?_); refine goesL_ (some 58) rfl rfl Try.func49 (by kernel_rfl) rfl #[.int .i64 (rd l0 x5_4), .int .i64 (wrap64 (x27_2 + 1)), .int .i64 (wrap64 ((rd l0 x27_2) - 1))] rfl (by (try simp only [List.map_toArray, List.map_cons, List.map_nil]); first | done | rfl | (simp only [List.length_drop, List.length_take]; rfl)) ?_; (with_reducible refine (impl_within.calls (rd l0 x5_4) (wrap64 (x27_2 + 1)) (wrap64 ((rd l0 x27_2) - 1)) false _ A20.out).mono ?_); rintro e w' ⟨rfl, ⟨nd, rfl⟩⟩; refine ⟨_, rfl, ?_⟩))
                  go_ret
                  exact ⟨by first | rfl | (simp [errW_none, errW_some] <;> rfl) | (simp [*, errW_none, errW_some] <;> rfl), by repeat (first | (with_reducible first | exact HB.out | apply below_alloc | apply pw_below_drewN | apply below_drew1) | exact HB.out)⟩
                ·rw [if_neg c19] at H
                 exact absurd H (by simp)
               ·rw [if_neg c18] at H
                exact absurd H (by simp)
              ·rw [if_neg c17] at H
               have c17b0 : decide (x5_4 < (rd l0 x27_2)) = false := decide_eq_false c17
               clear c17
               have H' := Aside0.mk H
               clear H
               go_wp2
               go_roundg k4
               case measure => have := HJ1.out; have := HK2.out; have := HJ11.out; have := HK4.out; omega
               case rel => exact ⟨(wrap64 (x27_2 + 1)), (by first | rfl | (simp; done) | (simp [*]; done)), H', ⟨by have := HJ1.out; have := HK2.out; have := HJ11.out; have := HK4.out; omega⟩, ⟨by repeat (first | (with_reducible first | exact HB.out | apply below_alloc | apply pw_below_drewN | apply below_drew1) | exact HB.out)⟩⟩
        ·rw [if_neg c11] at H
         exact absurd H (by simp)
       ·rw [if_neg c10] at H
        exact absurd H (by simp)
      ·rw [if_neg c9] at H
       have c9b0 : decide (x27_2 < (l0.length : Int)) = false := decide_eq_false c9
       clear c9
       obtain rfl := Option.some.inj H
       go_wp2
       go_ret
       exact ⟨by first | rfl | (simp [errW_none, errW_some] <;> rfl) | (simp [*, errW_none, errW_some] <;> rfl), by repeat (first | (with_reducible first | exact HB.out | apply below_alloc | apply pw_below_drewN | apply below_drew1) | exact HB.out)⟩

end Go.Proofs.Ythbkjaieenochaa.P

namespace Go.Proofs.Ythbkjaieenochaa
open Go.RowKit Go.Proofs.YthbkjaieenochaaW.PrintWords Go.Proofs.YthbkjaieenochaaW.PrintLast Go.Proofs.YthbkjaieenochaaW.PrintMore
set_option linter.unusedVariables false
set_option linter.unusedSimpArgs false
theorem i64_of (x : Int) (h0 : -9223372036854775808 ≤ x) (h1 : x ≤ 9223372036854775807) : IntKind.i64.wrap x = x := IntWalk.i64_in _ ⟨h0, h1⟩
theorem blk_new_at {w : World} {o : Obj} {g : Nat} (h : g = w.heap.size) : (w.alloc o).heap[g]? = some o := h ▸ blk_new w o
theorem S_empty {α : Type} {d : Kd α} {e : Nat} {W : World} {B g : Nat} {ok : Nat → Prop} (h : W.heap[g]? = some (.cells #[] e (0, 0))) (hB : B ≤ g) (hok : ok g) : Kd.S d e W B ok (.slice (some ⟨g, 0, none⟩) 0 0) [] := by
 refine ⟨fun _ => 0, fun k hk => ?_, [], ⟨by simp, .inr ⟨g, 0, #[], rfl, hB, h, Nat.le_refl _, by unfold maxLen; omega, by simp, by simp⟩⟩, Reps.none _ _⟩
 have : g = k := by simpa [Value.ownBlock] using hk
 exact this ▸ hok
end Go.Proofs.Ythbkjaieenochaa
namespace Go.Proofs.Ythbkjaieenochaa
open Go.RowKit Go.Proofs.YthbkjaieenochaaW.PrintWords Go.Proofs.YthbkjaieenochaaW.PrintLast Go.Proofs.YthbkjaieenochaaW.PrintMore
set_option linter.unusedVariables false
set_option linter.unusedSimpArgs false
/-- A row of rows of the call's own, the rows only read. -/
structure RawN (W : World) (B : Nat) (ok : Nat → Prop) (g cap : Nat) (us : List Value) (l : List (List Int)) : Prop where
 len : us.length = l.length
 le : l.length ≤ cap
 max : cap ≤ maxLen
 ge : B ≤ g
 okg : ok g
 top : ∃ cur : Array Value, W.heap[g]? = some (.cells cur 28 (0, 0)) ∧ cur.size = cap ∧ cur.toList.take l.length = us
 each : ∀ (j : Nat) (x : List Int) (u : Value), l[j]? = some x → us[j]? = some u → Kd.FK (Kd.slice 3 (Kd.int .i64)) W (fun k => ok k ∧ k ≠ g) x [u]
theorem RawN.N {W : World} {B : Nat} {ok : Nat → Prop} {g cap : Nat} {us : List Value} {l : List (List Int)} (h : RawN W B ok g cap us l) : Kd.N (Kd.slice 3 (Kd.int .i64)) 28 W B ok (.slice (some ⟨g, 0, none⟩) l.length cap) l := by
 obtain ⟨cur, hh, hsz, htk⟩ := h.top
 have hsz1 : (Kd.raw (Kd.slice 3 (Kd.int .i64)).sz).sz = 1 := rfl
 have hlr : (us.map fun u => [u]).length = l.length := by rw [List.length_map, h.len]
 refine ⟨fun k hk => ?_, us.map fun u => [u], hlr, ⟨fun k hk => hk.symm, us, ?_, ?_⟩, ?_⟩
 ·have : g = k := by simpa [Value.ownBlock] using hk
  exact this ▸ h.okg
 ·rw [hlr]
  exact ⟨by rw [hsz1, Nat.mul_one]; exact h.len, .inr ⟨g, cap, cur, rfl, h.ge, hh, h.le, h.max, by rw [hsz1, Nat.mul_one]; exact hsz, by rw [hsz1, Nat.mul_one]; exact htk⟩⟩
 ·refine ⟨by rw [hsz1, Nat.mul_one, List.length_map], fun j c hj => ?_⟩
  rw [List.getElem?_map] at hj
  obtain ⟨u, hu, rfl⟩ := Option.map_eq_some_iff.1 hj
  have hju : j < us.length := (List.getElem?_eq_some_iff.1 hu).1
  have hjl : j < l.length := by rw [← h.len]; exact hju
  rw [hsz1, Nat.mul_one, List.drop_eq_getElem_cons hju, List.take_succ_cons, List.take_zero, (List.getElem?_eq_some_iff.1 hu).2]
  exact ⟨rfl, rfl, (Kd.slice 3 (Kd.int .i64)).K_one (Kd.FK_now (h.each j l[j] u (List.getElem?_eq_getElem hjl) hu))⟩
 ·intro j x c hx hc
  rw [List.getElem?_map] at hc
  obtain ⟨u, hu, rfl⟩ := Option.map_eq_some_iff.1 hc
  exact Kd.FK_mono (h.each j x u hx hu) (fun k hk => ⟨hk.1, fun e => hk.2 (by simpa [Value.ownBlock] using e)⟩)
end Go.Proofs.Ythbkjaieenochaa
namespace Go.Proofs.Ythbkjaieenochaa
open Go.RowKit Go.Proofs.YthbkjaieenochaaW.PrintWords Go.Proofs.YthbkjaieenochaaW.PrintLast Go.Proofs.YthbkjaieenochaaW.PrintMore
set_option linter.unusedVariables false
set_option linter.unusedSimpArgs false
/-- The cells of a row that is read. -/
theorem C_cells {W : World} {A : Option Addr} {l : List (List Int)} (h : Kd.C (Kd.slice 3 (Kd.int .i64)) W A l.length l) : ∃ us : List Value, us.length = l.length ∧ Kd.C (Kd.raw 1) W A us.length (us.map fun u => [u]) ∧ (∀ u ∈ us, u.oneCell' = true) ∧ ∀ ad, A = some ad → ∀ j u, us[j]? = some u → W.cell? (ad.add j) = some u := by
 rcases Nat.eq_zero_or_pos l.length with h0 | h0
 ·exact ⟨[], by simp [h0], ⟨rfl, by simp, fun h => absurd h (Nat.lt_irrefl 0)⟩, by simp, by simp⟩
 ·obtain ⟨hl, hm, hn⟩ := h
  obtain ⟨ad, rfl, hc⟩ := hn h0
  have hx : ∀ j, j < l.length → ∃ u : Value, u.oneCell' = true ∧ W.cell? (ad.add j) = some u := fun j hj => by
   obtain ⟨c, hcs, hK, hcell⟩ := hc j l[j] (List.getElem?_eq_getElem hj)
   have hcl : c.length = 1 := hcs
   obtain ⟨u, rfl⟩ := List.length_eq_one_iff.1 hcl
   have := hcell 0 u rfl
   have hsz : (Kd.slice 3 (Kd.int .i64)).sz = 1 := rfl
   rw [hsz, Nat.mul_one, Nat.add_zero] at this
   exact ⟨u, (Kd.slice 3 (Kd.int .i64)).K_one hK u (List.mem_singleton.2 rfl), this⟩
  refine ⟨(List.range l.length).map fun j => (W.cell? (ad.add j)).getD (.bool false), by simp, ?_, ?_, ?_⟩
  ·refine ⟨by simp, by simpa using hm, fun _ => ⟨ad, rfl, fun j p hj => ?_⟩⟩
   rw [List.getElem?_map, List.getElem?_map] at hj
   have hj2 : j < l.length := by
    rcases Nat.lt_or_ge j l.length with h | h
    ·exact h
    ·rw [List.getElem?_eq_none (by simpa using h)] at hj; simp at hj
   rw [List.getElem?_range hj2] at hj
   obtain ⟨u, h1, h2⟩ := hx j hj2
   simp only [Option.map_some, Option.some.injEq, h2, Option.getD_some] at hj
   subst hj
   refine ⟨[u], rfl, ⟨rfl, rfl, fun q hq => by rw [List.mem_singleton.1 hq]; exact h1⟩, fun i q hq => ?_⟩
   rcases i with _ | i
   ·simp only [List.getElem?_cons_zero, Option.some.injEq] at hq
    subst hq
    rw [Nat.add_zero, show (Kd.raw 1).sz = 1 from rfl, Nat.mul_one]; exact h2
   ·simp at hq
  ·intro u hu
   obtain ⟨j, hj, rfl⟩ := List.mem_map.1 hu
   obtain ⟨u, h1, h2⟩ := hx j (List.mem_range.1 hj)
   rw [h2]; exact h1
  ·intro ad' e j u hu
   injection e with e
   subst e
   rw [List.getElem?_map] at hu
   have hj2 : j < l.length := by
    rcases Nat.lt_or_ge j l.length with h | h
    ·exact h
    ·rw [List.getElem?_eq_none (by simpa using h)] at hu; simp at hu
   rw [List.getElem?_range hj2] at hu
   obtain ⟨u', h1, h2⟩ := hx j hj2
   simp only [Option.map_some, Option.some.injEq, h2, Option.getD_some] at hu
   exact hu ▸ h2
theorem info_rowsU : (Try.prog.info? 28).map (fun i => (i.zero, i.size, i.bytes)) = some (some (.slice none 0 0), 1, 24) := by kernel_rfl
end Go.Proofs.Ythbkjaieenochaa
namespace Go.Proofs.Ythbkjaieenochaa
open Go.RowKit Go.Proofs.YthbkjaieenochaaW.PrintWords Go.Proofs.YthbkjaieenochaaW.PrintLast Go.Proofs.YthbkjaieenochaaW.PrintMore
set_option linter.unusedVariables false
set_option linter.unusedSimpArgs false
/-- Blocks that stay as they are. -/
def frD (W : World) (bo : Nat) (v : Value) : Nat → Prop := fun k => (k ≠ bo ∧ some k ≠ v.ownBlock) ∧ k < W.heap.size
/-- What is written. -/
def tD (bo : Nat) (v : Value) : Nat → Prop := fun k => k = bo ∨ some k = v.ownBlock
theorem frD_step {W W' : World} {bo : Nat} {v v' : Value} (ht : Touch W W' (tD bo v)) (hv : ∀ k, some k = v'.ownBlock → some k = v.ownBlock ∨ W.heap.size ≤ k) : ∀ k, frD W bo v k → frD W' bo v' k :=
 fun k hk => ⟨⟨hk.1.1, fun e => (hv k e).elim hk.1.2 (fun h => by have := hk.2; omega)⟩, Nat.lt_of_lt_of_le hk.2 ht.size⟩
def okD (bo ba bl : Nat) : Nat → Prop := fun k => k ≠ bo ∧ k ≠ ba ∧ k ≠ bl
/-- A row appended to a cut of rows that are only read. -/
theorem app1_F {w w1 w9 : World} {ok : Nat → Prop} {A Ar : Option Addr} {cr : Nat} {rows : List (List Int)} {row : List Int} {us : List Value} {v9 : Value} (hF : Kd.F (Kd.slice 3 (Kd.int .i64)) w ok A rows.length rows) (hul : us.length = rows.length) (hus : ∀ ad, A = some ad → ∀ j u, us[j]? = some u → w.cell? (ad.add j) = some u)
  (hrow : Kd.F (Kd.int .i64) w ok Ar row.length row) (hcr : row.length ≤ cr) (hb : Below w.heap.size w w1) (how : w9.ownsRow w1.heap.size 28 1 v9 (rows.length + 1) (us ++ [.slice Ar row.length cr])) (hg : w1.grownBy w9 none) :
  ∃ A9 c9, v9 = .slice A9 (rows ++ [row]).length c9 ∧ (rows ++ [row]).length ≤ c9 ∧ Kd.F (Kd.slice 3 (Kd.int .i64)) w9 (fun k => ok k ∨ w.heap.size ≤ k) A9 (rows ++ [row]).length (rows ++ [row]) ∧ Below w1.heap.size w1 w9 := by
 have hb9 : Below w1.heap.size w1 w9 := ⟨hg.os, hg.tape, hg.output, hg.size, fun k hk => hg.block k hk (by simp)⟩
 have hbw : Below w.heap.size w w9 := hb.trans (hb9.mono hb.size)
 have hlr : (rows ++ [row]).length = rows.length + 1 := by simp
 obtain ⟨hl, hc⟩ := how
 rcases hc with ⟨_, h0⟩ | ⟨g, cap, cur, rfl, hgB, hh, hle, hmx, hsz, htk⟩
 ·omega
 ·rw [Nat.mul_one] at hsz htk
  have hR : RawN w9 w1.heap.size (fun k => ok k ∨ w.heap.size ≤ k) g cap (us ++ [.slice Ar row.length cr]) (rows ++ [row]) := by
   refine ⟨by simp [hul], by omega, hmx, hgB, .inr (Nat.le_trans hb.size hgB), ⟨cur, hh, hsz, by rw [hlr]; exact htk⟩, fun j x u hx hu => ?_⟩
   rcases Nat.lt_or_ge j rows.length with hj | hj
   ·rw [List.getElem?_append_left hj] at hx
    rw [List.getElem?_append_left (by omega)] at hu
    obtain ⟨ad, c, hA, hcl, hFK, hcell, _⟩ := Kd.F_get hF ([] : List Int) (j : Int) (by omega) (by omega)
    have hcl1 : c.length = 1 := hcl
    obtain ⟨q, rfl⟩ := List.length_eq_one_iff.1 hcl1
    have h1 := hcell 0 q rfl
    rw [Int.toNat_natCast, show (Kd.slice 3 (Kd.int .i64)).sz = 1 from rfl, Nat.mul_one, Nat.add_zero, hus ad hA j u hu] at h1
    obtain rfl := Option.some.inj h1
    rw [Int.toNat_natCast, List.getD_eq_getElem?_getD, hx] at hFK
    exact Kd.FK_mono (Kd.FK_below (Foot.bound hFK) hbw) (fun k hk => ⟨.inl hk.1, by have := hk.2; have := hb.size; omega⟩)
   ·have hje : j = rows.length := by
     have := (List.getElem?_eq_some_iff.1 hx).1
     rw [hlr] at this; omega
    subst hje
    rw [List.getElem?_append_right (Nat.le_refl _), Nat.sub_self] at hx
    rw [List.getElem?_append_right (by omega), hul, Nat.sub_self] at hu
    simp only [List.getElem?_cons_zero, Option.some.injEq] at hx hu
    subst hx hu
    exact Kd.FK_mono (Kd.FK_below (Foot.bound (Kd.FK_slice_mk hcr hrow)) hbw) (fun k hk => ⟨.inl hk.1, by have := hk.2; have := hb.size; omega⟩)
  have hN := hR.N
  exact ⟨_, cap, by rw [hlr], by omega, Kd.N_F hN, hb9⟩
end Go.Proofs.Ythbkjaieenochaa
namespace Go.Proofs.Ythbkjaieenochaa.L
open Go.RowKit Go.Proofs.Ythbkjaieenochaa Go.Proofs.YthbkjaieenochaaW.PrintWords Go.Proofs.YthbkjaieenochaaW.PrintLast Go.Proofs.YthbkjaieenochaaW.PrintMore
set_option linter.unusedVariables false
set_option linter.unusedSimpArgs false
/-- A row added to the sums of the columns. -/
def addR (s r : List Int) (j : Nat) : List Int := (List.range j).foldl (fun s j => s.set j (wrap64 (rd s j + rd r j))) s
theorem addR_succ (s r : List Int) (j : Nat) : addR s r (j + 1) = (addR s r j).set j (wrap64 (rd (addR s r j) j + rd r j)) := by
 unfold addR
 rw [List.range_succ, List.foldl_append]
 rfl
theorem addR_length (s r : List Int) : ∀ j, (addR s r j).length = s.length
 | 0 => rfl
 | j + 1 => by rw [addR_succ, List.length_set, addR_length s r j]
end Go.Proofs.Ythbkjaieenochaa.L
namespace Go.Proofs.Ythbkjaieenochaa.P
end Go.Proofs.Ythbkjaieenochaa.P
namespace Go.Proofs.Ythbkjaieenochaa.L
end Go.Proofs.Ythbkjaieenochaa.L
