/- Texts of one chain, in build order. -/
import Derived.Test.YtdcdkckpmkfjdaaYBWeightSumSetSum19
import Derived.Test.YtdcdkckpmkfjdaaWMore
namespace Go.Proofs.Ytdcdkckpmkfjdaa.P
open Go.RowKit Go.Proofs.YtdcdkckpmkfjdaaW.PrintWords Go.Proofs.YtdcdkckpmkfjdaaW.PrintLast Go.Proofs.YtdcdkckpmkfjdaaW.PrintMore
attribute [local go_sem] max2_int min2_int max_two min_two max_three min_three max_four min_four   -- for this text's walks alone
set_option linter.unusedVariables false
set_option linter.unusedSimpArgs false

mutual
def spec_weSetWeight.l0 : Nat → List Int → Int → List (List Int) → Int → Int → List (List Int) → Int → Int → Option (Int)
 | 0, _, _, _, _, _, _, _, _ => none
 | k + 1, x1, x2, x7, x8, x9, x17, x18, x19 => if x19 < x18 then (if 0 ≤ x19 then (if x19 < (x17.length : Int) then (spec_weSetWeight.l1 k x1 x2 x7 x8 x9 x19 0 x17 x18 x19 (rd_L1 x17 x19) ((rd_L1 x17 x19).length : Int) 0) else (none)) else (none)) else (some x8)
def spec_weSetWeight.l1 : Nat → List Int → Int → List (List Int) → Int → Int → Int → Int → List (List Int) → Int → Int → List Int → Int → Int → Option (Int)
 | 0, _, _, _, _, _, _, _, _, _, _, _, _, _ => none
 | k + 1, x1, x2, x7, x8, x9, x10, x12, x17, x18, x19, x24, x25, x26 => if x26 < x25 then (if 0 ≤ x26 then (if x26 < (x24.length : Int) then (if (wrap64 (x10 + 1)) = (x7.length : Int) then (spec_weSetWeight.l1 k x1 x2 x7 x8 x9 x10 (wrap64 (x12 + (rd x24 x26))) x17 x18 x19 x24 x25 (wrap64 (x26 + 1))) else (if 0 ≤ (wrap64 (x10 + 1)) then (if (wrap64 (x10 + 1)) < (x7.length : Int) then (if x26 < ((rd_L1 x7 (wrap64 (x10 + 1))).length : Int) then (if (rd x24 x26) = (rd (rd_L1 x7 (wrap64 (x10 + 1))) x26) then (spec_weSetWeight.l1 k x1 x2 x7 (wrap64 (x8 * x2)) x9 x10 (wrap64 (x12 + (rd x24 x26))) x17 x18 x19 x24 x25 (wrap64 (x26 + 1))) else (if 0 ≤ (wrap64 (x26 + 1)) then (if (wrap64 (x26 + 1)) < ((rd_L1 x7 (wrap64 (x10 + 1))).length : Int) then (if (rd x24 x26) = (rd (rd_L1 x7 (wrap64 (x10 + 1))) (wrap64 (x26 + 1))) then (spec_weSetWeight.l1 k x1 x2 x7 x8 x9 x10 (wrap64 (x12 + (rd x24 x26))) x17 x18 x19 x24 x25 (wrap64 (x26 + 1))) else (spec_weSetWeight.l1 k x1 x2 x7 (wrap64 (x8 * (wrap64 (1 + x2)))) x9 x10 (wrap64 (x12 + (rd x24 x26))) x17 x18 x19 x24 x25 (wrap64 (x26 + 1)))) else (none)) else (none))) else (none)) else (none)) else (none))) else (none)) else (none)) else (if 0 ≤ x10 then (if x10 < (x1.length : Int) then ((spec_wePower.f k (rd x1 x10) (wrap64 (x12 - x9))).bind fun t277 => (spec_weSetWeight.l0 k x1 x2 x7 (wrap64 (x8 * t277)) x12 x17 x18 (wrap64 (x19 + 1)))) else (none)) else (none))
end
def spec_weSetWeight.f (k : Nat) (l0 : List (List Int)) (l1 : List Int) (a2 : Int) : Option (Int) := (spec_weSets.f k l0).bind fun t272 => (spec_weSetWeight.l0 k l1 a2 t272 1 0 t272 (t272.length : Int) 0)
set_option maxHeartbeats 8000000 in
set_option maxRecDepth 100000 in
theorem spec_weSetWeight.calls (k : Nat) (A0 : Option Addr) (c0 : Nat) (l0 : List (List Int)) (A1 : Option Addr) (c1 : Nat) (l1 : List Int) (a2 : Int) (r : Int) (w : World) (hr0 : Kd.C (Kd.slice 3 (Kd.int .i64)) w A0 l0.length l0) (hc0 : l0.length ≤ c0) (hr1 : Kd.C (Kd.int .i64) w A1 l1.length l1) (hc1 : l1.length ≤ c1) (h : spec_weSetWeight.f k l0 l1 a2 = some r) :
  Calls Try.prog 73 #[.slice A0 l0.length c0, .slice A1 l1.length c1, .int .i64 a2] w fun e w' => e = .returned (.int .i64 r) ∧ Below w.heap.size w w' := by
 have HR0 := Aside0.mk hr0
 have HC0 := Aside0.mk hc0
 clear hr0 hc0
 have HR1 := Aside0.mk hr1
 have HC1 := Aside0.mk hc1
 clear hr1 hc1
 have HB := Aside0.mk (Below.refl w.heap.size w)
 have H : ((spec_weSets.f k l0).bind fun t272 => (spec_weSetWeight.l0 k l1 a2 t272 1 0 t272 (t272.length : Int) 0)) = some r := h
 clear h
 replace H := Option.bind_eq_some_iff.mp H
 obtain ⟨t272, A40, H⟩ := H
 replace H : (spec_weSetWeight.l0 k l1 a2 t272 1 0 t272 (t272.length : Int) 0) = some r := H
 have A4 := Aside0.mk A40
 clear A40
 have H' := Aside0.mk H
 clear H
 go_enter Try.func73, Try.ntmps73
 go_wp2_with (first | ((with_reducible refine gate_callee (f := 118) rfl ?_); refine goesL_ (some 16) rfl rfl Try.func118 (by kernel_rfl) rfl #[.slice A0 l0.length c0] rfl (by (try simp only [List.map_toArray, List.map_cons, List.map_nil]); first | done | rfl | (simp only [List.length_drop, List.length_take]; rfl)) ?_; (with_reducible refine (spec_weSets.calls k _ _ l0 t272 _ ?side1 ?side2 A4.out).mono ?_); (case side1 => repeat (first | exact HR0.out | (with_reducible refine Kd.C_alloc ?_ _) | (with_reducible refine Kd.C_drewN ?_ _) | (with_reducible refine Kd.C_drew ?_))); (case side2 => exact HC0.out); rintro e w5 ⟨v273, rfl, ho0, hb⟩; refine ⟨_, rfl, ?_⟩; have n0_ := Aside0.mk (Kd.S_lower ho0 (below_size (by repeat (first | (with_reducible first | exact HB.out | apply below_alloc | apply pw_below_drewN | apply below_drew1) | exact HB.out)))); have n1_ := Aside0.mk (below_step (by repeat (first | (with_reducible first | exact HB.out | apply below_alloc | apply pw_below_drewN | apply below_drew1) | exact HB.out)) hb); clear HB; have HO274 := n0_; have HB := n1_; clear n0_ n1_; (try clear hb); (try clear hb2); (try clear hk); (try clear hi); (try clear ho0); obtain ⟨Ao6, co6, eo6⟩ := Kd.S_slice HO274.out; subst eo6))
 go_loopg [8, 9, 19] k (fun kq v8 v9 v19 w' => ∃ (x8_1 : Int) (x9_1 : Int) (x19_1 : Int), v8 = .int .i64 x8_1 ∧ v9 = .int .i64 x9_1 ∧ v19 = .int .i64 x19_1 ∧ Aside0 (spec_weSetWeight.l0 kq l1 a2 t272 x8_1 x9_1 t272 (t272.length : Int) x19_1 = some r) ∧ Aside0 (kq ≤ k) ∧ Aside0 (Kd.S (Kd.slice 3 (Kd.int .i64)) 22 w' w.heap.size (fun _ => True) (.slice Ao6 t272.length co6) t272) ∧ Aside0 (Kd.S (Kd.slice 3 (Kd.int .i64)) 22 w' w.heap.size (fun _ => True) (.slice Ao6 t272.length co6) t272) ∧ Aside0 (Below w.heap.size w w'))
 case atStart => exact ⟨(1), (0), (0), (by first | rfl | (simp; done) | (simp [*]; done)), (by first | rfl | (simp; done) | (simp [*]; done)), (by first | rfl | (simp; done) | (simp [*]; done)), H', ⟨Nat.le_refl _⟩, ⟨by (with_reducible repeat (first | apply Kd.S_alloc | apply Kd.S_drewN | apply Kd.S_drew)); exact HO274.out⟩, ⟨by (with_reducible repeat (first | apply Kd.S_alloc | apply Kd.S_drewN | apply Kd.S_drew)); exact HO274.out⟩, ⟨by repeat (first | (with_reducible first | exact HB.out | apply below_alloc | apply pw_below_drewN | apply below_drew1) | exact HB.out)⟩⟩
 case round =>
  clear H'
  try clear c1
  try clear p2
  obtain ⟨x8_1, x9_1, x19_1, rfl, rfl, rfl, HA, HK1, HO_7, HO_17, HB⟩ := hrel
  cases gk with
  | zero => exact absurd HA.out (by simp [spec_weSetWeight.l0])
  | succ k1 =>
   have H := HA.out
   clear HA
   simp only [spec_weSetWeight.l0] at H
   by_cases c7 : x19_1 < (t272.length : Int)
   ·rw [if_pos c7] at H
    have c7b0 : decide (x19_1 < (t272.length : Int)) = true := decide_eq_true c7
    clear c7
    by_cases c8 : 0 ≤ x19_1
    ·rw [if_pos c8] at H
     have c8b0 : decide (0 ≤ x19_1) = true := decide_eq_true c8
     clear c8
     by_cases c9 : x19_1 < (t272.length : Int)
     ·rw [if_pos c9] at H
      have c9b0 : decide (x19_1 < (t272.length : Int)) = true := decide_eq_true c9
      clear c9
      have H' := Aside0.mk H
      clear H
      have p275 : 0 ≤ (x19_1 : Int) := of_decide_eq_true (by first | (with_reducible assumption) | assumption)
      have q275 : x19_1 < (t272.length : Int) := of_decide_eq_true (by first | (with_reducible assumption) | assumption)
      obtain ⟨ad275, A275_0, c275_0, e275, hx275_0, hl275_0, hi275_0⟩ := at_L1 (Kd.S_reads' HO_17.out).2.2 x19_1 p275 q275
      cases e275
      obtain ⟨ce275, hce275, hMe275, hcc275⟩ := Kd.S_get HO_17.out [] x19_1 p275 (by first | exact q275 | exact of_decide_eq_true (by first | (with_reducible assumption) | assumption) | (have e_ := (Kd.S_reads' HO_17.out).1; omega))
      obtain ⟨ve275_0, rfl, ge275_0⟩ := hMe275
      have hv275_0 := hcc275 0 _ rfl
      rw [Nat.add_zero, show ((Kd.slice 3 (Kd.int .i64))).sz = 1 from rfl, Nat.mul_one] at hv275_0
      replace hv275_0 := Option.some.inj (hv275_0.symm.trans hx275_0)
      rw [hv275_0] at ge275_0
      have HL275_0 := Aside0.mk (show Kd.R (Kd.int .i64) 3 _ _ _ _ (rd_L1 t272 x19_1) from ge275_0)
      clear hv275_0 ge275_0
      clear hcc275 hce275
      have HR275_0 := Aside0.mk hi275_0
      have HC275_0 := Aside0.mk hl275_0
      clear hi275_0 hl275_0
      replace p275 := eq_true p275
      replace q275 := eq_true q275
      go_wp2
      go_loopg [8, 12, 26] k1 (fun kq v8 v12 v26 w' => ∃ (x8_2 : Int) (x12_2 : Int) (x26_2 : Int), v8 = .int .i64 x8_2 ∧ v12 = .int .i64 x12_2 ∧ v26 = .int .i64 x26_2 ∧ Aside0 (spec_weSetWeight.l1 kq l1 a2 t272 x8_2 x9_1 x19_1 x12_2 t272 (t272.length : Int) x19_1 (rd_L1 t272 x19_1) ((rd_L1 t272 x19_1).length : Int) x26_2 = some r) ∧ Aside0 (kq ≤ k1) ∧ Aside0 (Kd.S (Kd.slice 3 (Kd.int .i64)) 22 w' w.heap.size (fun _ => True) (.slice (some ad275) t272.length co6) t272) ∧ Aside0 (Kd.S (Kd.slice 3 (Kd.int .i64)) 22 w' w.heap.size (fun _ => True) (.slice (some ad275) t272.length co6) t272) ∧ Aside0 (Kd.C (Kd.int .i64) w' A275_0 (rd_L1 t272 x19_1).length (rd_L1 t272 x19_1)) ∧ Aside0 (Below w.heap.size w w'))
      case atStart => exact ⟨(x8_1), (0), (0), (by first | rfl | (simp; done) | (simp [*]; done)), (by first | rfl | (simp; done) | (simp [*]; done)), (by first | rfl | (simp; done) | (simp [*]; done)), H', ⟨Nat.le_refl _⟩, ⟨by (with_reducible repeat (first | apply Kd.S_alloc | apply Kd.S_drewN | apply Kd.S_drew)); exact HO_7.out⟩, ⟨by (with_reducible repeat (first | apply Kd.S_alloc | apply Kd.S_drewN | apply Kd.S_drew)); exact HO_17.out⟩, ⟨by repeat (first | (with_reducible exact HR275_0.out) | (with_reducible refine Kd.C_alloc ?_ _) | (with_reducible refine Kd.C_drewN ?_ _) | (with_reducible refine Kd.C_drew ?_) | exact HR275_0.out)⟩, ⟨by repeat (first | (with_reducible first | exact HB.out | apply below_alloc | apply pw_below_drewN | apply below_drew1) | exact HB.out)⟩⟩
      case round =>
       clear H'
       try clear c1
       try clear c2
       try clear p2
       try clear q2
       try clear hx2
       try clear c7
       try clear c7b0
       try clear c8
       try clear c8b0
       try clear c9
       try clear c9b0
       try clear hx275_0
       try clear p2
       try clear p275
       try clear q275
       obtain ⟨x8_2, x12_2, x26_2, rfl, rfl, rfl, HA, HK2, HO_7, HO_17, HR275_0, HB⟩ := hrel
       cases gk with
       | zero => exact absurd HA.out (by simp [spec_weSetWeight.l1])
       | succ k2 =>
        have H := HA.out
        clear HA
        simp only [spec_weSetWeight.l1] at H
        by_cases c10 : x26_2 < ((rd_L1 t272 x19_1).length : Int)
        ·rw [if_pos c10] at H
         have c10b0 : decide (x26_2 < ((rd_L1 t272 x19_1).length : Int)) = true := decide_eq_true c10
         clear c10
         by_cases c11 : 0 ≤ x26_2
         ·rw [if_pos c11] at H
          have c11b0 : decide (0 ≤ x26_2) = true := decide_eq_true c11
          clear c11
          by_cases c12 : x26_2 < ((rd_L1 t272 x19_1).length : Int)
          ·rw [if_pos c12] at H
           have c12b0 : decide (x26_2 < ((rd_L1 t272 x19_1).length : Int)) = true := decide_eq_true c12
           clear c12
           by_cases c13 : (wrap64 (x19_1 + 1)) = (t272.length : Int)
           ·rw [if_pos c13] at H
            have c13b0 : ((wrap64 (x19_1 + 1)) == (t272.length : Int)) = true := beq_iff_eq.mpr c13
            have c13b1 : ((wrap64 (x19_1 + 1)) != (t272.length : Int)) = false := bne_eq_false_iff_eq.mpr c13
            clear c13
            have H' := Aside0.mk H
            clear H
            have p278 : 0 ≤ (x26_2 : Int) := of_decide_eq_true (by first | (with_reducible assumption) | assumption)
            have q278 : x26_2 < ((rd_L1 t272 x19_1).length : Int) := of_decide_eq_true (by first | (with_reducible assumption) | assumption)
            obtain ⟨ad278, e278, hx278_0⟩ := Kd.at_int HR275_0.out x26_2 p278 q278
            cases e278
            (try replace hx278_0 := (HB.out.cell (World.block_lt_of_cell? w _ hx278_0)).trans hx278_0)
            replace p278 := eq_true p278
            replace q278 := eq_true q278
            go_wp2
            go_roundg k2
            case measure => have := HK1.out; have := HK2.out; omega
            case rel => exact ⟨(x8_2), (wrap64 (x12_2 + (rd (rd_L1 t272 x19_1) x26_2))), (wrap64 (x26_2 + 1)), (by first | rfl | (simp; done) | (simp [*]; done)), (by first | rfl | (simp; done) | (simp [*]; done)), (by first | rfl | (simp; done) | (simp [*]; done)), H', ⟨by have := HK1.out; have := HK2.out; omega⟩, ⟨by (with_reducible repeat (first | apply Kd.S_alloc | apply Kd.S_drewN | apply Kd.S_drew)); exact HO_7.out⟩, ⟨by (with_reducible repeat (first | apply Kd.S_alloc | apply Kd.S_drewN | apply Kd.S_drew)); exact HO_17.out⟩, ⟨by repeat (first | (with_reducible exact HR275_0.out) | (with_reducible refine Kd.C_alloc ?_ _) | (with_reducible refine Kd.C_drewN ?_ _) | (with_reducible refine Kd.C_drew ?_) | exact HR275_0.out)⟩, ⟨by repeat (first | (with_reducible first | exact HB.out | apply below_alloc | apply pw_below_drewN | apply below_drew1) | exact HB.out)⟩⟩
           ·rw [if_neg c13] at H
            have c13b0 : ((wrap64 (x19_1 + 1)) == (t272.length : Int)) = false := beq_eq_false_iff_ne.mpr c13
            have c13b1 : ((wrap64 (x19_1 + 1)) != (t272.length : Int)) = true := bne_iff_ne.mpr c13
            obtain ⟨ji14, hji14⟩ : ∃ j_ : Int, (wrap64 (x19_1 + 1)) = j_ := ⟨_, rfl⟩
            replace H : (if 0 ≤ (ji14) then (if (ji14) < (t272.length : Int) then (if x26_2 < ((rd_L1 t272 (ji14)).length : Int) then (if (rd (rd_L1 t272 x19_1) x26_2) = (rd (rd_L1 t272 (ji14)) x26_2) then (spec_weSetWeight.l1 k2 l1 a2 t272 (wrap64 (x8_2 * a2)) x9_1 x19_1 (wrap64 (x12_2 + (rd (rd_L1 t272 x19_1) x26_2))) t272 (t272.length : Int) x19_1 (rd_L1 t272 x19_1) ((rd_L1 t272 x19_1).length : Int) (wrap64 (x26_2 + 1))) else (if 0 ≤ (wrap64 (x26_2 + 1)) then (if (wrap64 (x26_2 + 1)) < ((rd_L1 t272 (ji14)).length : Int) then (if (rd (rd_L1 t272 x19_1) x26_2) = (rd (rd_L1 t272 (ji14)) (wrap64 (x26_2 + 1))) then (spec_weSetWeight.l1 k2 l1 a2 t272 x8_2 x9_1 x19_1 (wrap64 (x12_2 + (rd (rd_L1 t272 x19_1) x26_2))) t272 (t272.length : Int) x19_1 (rd_L1 t272 x19_1) ((rd_L1 t272 x19_1).length : Int) (wrap64 (x26_2 + 1))) else (spec_weSetWeight.l1 k2 l1 a2 t272 (wrap64 (x8_2 * (wrap64 (1 + a2)))) x9_1 x19_1 (wrap64 (x12_2 + (rd (rd_L1 t272 x19_1) x26_2))) t272 (t272.length : Int) x19_1 (rd_L1 t272 x19_1) ((rd_L1 t272 x19_1).length : Int) (wrap64 (x26_2 + 1)))) else (none)) else (none))) else (none)) else (none)) else (none)) = some r := by first | (rw [hji14] at H; exact H) | (simp only [hji14] at H ⊢; exact H)
            (try rw [hji14] at c13b0)
            (try rw [hji14] at c13b1)
            have hji14w : (IntKind.i64.wrap (x19_1 + 1)) = ji14 := (i64_w _).trans hji14
            by_cases c15 : 0 ≤ (ji14)
            ·rw [if_pos c15] at H
             have c15b0 : decide (0 ≤ (ji14)) = true := decide_eq_true c15
             clear c15
             by_cases c16 : (ji14) < (t272.length : Int)
             ·rw [if_pos c16] at H
              have c16b0 : decide ((ji14) < (t272.length : Int)) = true := decide_eq_true c16
              clear c16
              by_cases c17 : x26_2 < ((rd_L1 t272 (ji14)).length : Int)
              ·rw [if_pos c17] at H
               have c17b0 : decide (x26_2 < ((rd_L1 t272 (ji14)).length : Int)) = true := decide_eq_true c17
               clear c17
               by_cases c18 : (rd (rd_L1 t272 x19_1) x26_2) = (rd (rd_L1 t272 (ji14)) x26_2)
               ·rw [if_pos c18] at H
                have c18b0 : ((rd (rd_L1 t272 x19_1) x26_2) == (rd (rd_L1 t272 (ji14)) x26_2)) = true := beq_iff_eq.mpr c18
                have c18b1 : ((rd (rd_L1 t272 x19_1) x26_2) != (rd (rd_L1 t272 (ji14)) x26_2)) = false := bne_eq_false_iff_eq.mpr c18
                clear c18
                have H' := Aside0.mk H
                clear H
                have p278 : 0 ≤ (x26_2 : Int) := of_decide_eq_true (by first | (with_reducible assumption) | assumption)
                have q278 : x26_2 < ((rd_L1 t272 x19_1).length : Int) := of_decide_eq_true (by first | (with_reducible assumption) | assumption)
                obtain ⟨ad278, e278, hx278_0⟩ := Kd.at_int HR275_0.out x26_2 p278 q278
                cases e278
                (try replace hx278_0 := (HB.out.cell (World.block_lt_of_cell? w _ hx278_0)).trans hx278_0)
                replace p278 := eq_true p278
                replace q278 := eq_true q278
                have p279 : 0 ≤ ((ji14) : Int) := of_decide_eq_true (by first | (with_reducible assumption) | assumption)
                have q279 : (ji14) < (t272.length : Int) := of_decide_eq_true (by first | (with_reducible assumption) | assumption)
                obtain ⟨ad279, A279_0, c279_0, e279, hx279_0, hl279_0, hi279_0⟩ := at_L1 (Kd.S_reads' HO_7.out).2.2 (ji14) p279 q279
                obtain rfl : ad275 = ad279 := (by injection e279)
                obtain ⟨ce279, hce279, hMe279, hcc279⟩ := Kd.S_get HO_7.out [] (ji14) p279 (by first | exact q279 | exact of_decide_eq_true (by first | (with_reducible assumption) | assumption) | (have e_ := (Kd.S_reads' HO_7.out).1; omega))
                obtain ⟨ve279_0, rfl, ge279_0⟩ := hMe279
                have hv279_0 := hcc279 0 _ rfl
                rw [Nat.add_zero, show ((Kd.slice 3 (Kd.int .i64))).sz = 1 from rfl, Nat.mul_one] at hv279_0
                replace hv279_0 := Option.some.inj (hv279_0.symm.trans hx279_0)
                rw [hv279_0] at ge279_0
                have HL279_0 := Aside0.mk (show Kd.R (Kd.int .i64) 3 _ _ _ _ (rd_L1 t272 (ji14)) from ge279_0)
                clear hv279_0 ge279_0
                clear hcc279 hce279
                have HR279_0 := Aside0.mk hi279_0
                have HC279_0 := Aside0.mk hl279_0
                clear hi279_0 hl279_0
                replace p279 := eq_true p279
                replace q279 := eq_true q279
                have p280 : 0 ≤ (x26_2 : Int) := of_decide_eq_true (by first | (with_reducible assumption) | assumption)
                have q280 : x26_2 < ((rd_L1 t272 (ji14)).length : Int) := of_decide_eq_true (by first | (with_reducible assumption) | assumption)
                obtain ⟨ad280, e280, hx280_0⟩ := Kd.at_int (by repeat (first | (with_reducible exact HR279_0.out) | (with_reducible refine Kd.C_alloc ?_ _) | (with_reducible refine Kd.C_drewN ?_ _) | (with_reducible refine Kd.C_drew ?_) | exact HR279_0.out)) x26_2 p280 q280
                cases e280
                replace p280 := eq_true p280
                replace q280 := eq_true q280
                go_wp2
                go_roundg k2
                case measure => have := HK1.out; have := HK2.out; omega
                case rel => exact ⟨(wrap64 (x8_2 * a2)), (wrap64 (x12_2 + (rd (rd_L1 t272 x19_1) x26_2))), (wrap64 (x26_2 + 1)), (by first | rfl | (simp; done) | (simp [*]; done)), (by first | rfl | (simp; done) | (simp [*]; done)), (by first | rfl | (simp; done) | (simp [*]; done)), H', ⟨by have := HK1.out; have := HK2.out; omega⟩, ⟨by (with_reducible repeat (first | apply Kd.S_alloc | apply Kd.S_drewN | apply Kd.S_drew)); exact HO_7.out⟩, ⟨by (with_reducible repeat (first | apply Kd.S_alloc | apply Kd.S_drewN | apply Kd.S_drew)); exact HO_17.out⟩, ⟨by repeat (first | (with_reducible exact HR275_0.out) | (with_reducible refine Kd.C_alloc ?_ _) | (with_reducible refine Kd.C_drewN ?_ _) | (with_reducible refine Kd.C_drew ?_) | exact HR275_0.out)⟩, ⟨by repeat (first | (with_reducible first | exact HB.out | apply below_alloc | apply pw_below_drewN | apply below_drew1) | exact HB.out)⟩⟩
               ·rw [if_neg c18] at H
                have c18b0 : ((rd (rd_L1 t272 x19_1) x26_2) == (rd (rd_L1 t272 (ji14)) x26_2)) = false := beq_eq_false_iff_ne.mpr c18
                have c18b1 : ((rd (rd_L1 t272 x19_1) x26_2) != (rd (rd_L1 t272 (ji14)) x26_2)) = true := bne_iff_ne.mpr c18
                obtain ⟨ji19, hji19⟩ : ∃ j_ : Int, (wrap64 (x26_2 + 1)) = j_ := ⟨_, rfl⟩
                replace H : (if 0 ≤ (ji19) then (if (ji19) < ((rd_L1 t272 (ji14)).length : Int) then (if (rd (rd_L1 t272 x19_1) x26_2) = (rd (rd_L1 t272 (ji14)) (ji19)) then (spec_weSetWeight.l1 k2 l1 a2 t272 x8_2 x9_1 x19_1 (wrap64 (x12_2 + (rd (rd_L1 t272 x19_1) x26_2))) t272 (t272.length : Int) x19_1 (rd_L1 t272 x19_1) ((rd_L1 t272 x19_1).length : Int) ji19) else (spec_weSetWeight.l1 k2 l1 a2 t272 (wrap64 (x8_2 * (wrap64 (1 + a2)))) x9_1 x19_1 (wrap64 (x12_2 + (rd (rd_L1 t272 x19_1) x26_2))) t272 (t272.length : Int) x19_1 (rd_L1 t272 x19_1) ((rd_L1 t272 x19_1).length : Int) ji19)) else (none)) else (none)) = some r := by first | (rw [hji19] at H; exact H) | (simp only [hji19] at H ⊢; exact H)
                have hji19w : (IntKind.i64.wrap (x26_2 + 1)) = ji19 := (i64_w _).trans hji19
                by_cases c20 : 0 ≤ (ji19)
                ·rw [if_pos c20] at H
                 have c20b0 : decide (0 ≤ (ji19)) = true := decide_eq_true c20
                 clear c20
                 by_cases c21 : (ji19) < ((rd_L1 t272 (ji14)).length : Int)
                 ·rw [if_pos c21] at H
                  have c21b0 : decide ((ji19) < ((rd_L1 t272 (ji14)).length : Int)) = true := decide_eq_true c21
                  clear c21
                  by_cases c22 : (rd (rd_L1 t272 x19_1) x26_2) = (rd (rd_L1 t272 (ji14)) (ji19))
                  ·rw [if_pos c22] at H
                   have c22b0 : ((rd (rd_L1 t272 x19_1) x26_2) == (rd (rd_L1 t272 (ji14)) (ji19))) = true := beq_iff_eq.mpr c22
                   have c22b1 : ((rd (rd_L1 t272 x19_1) x26_2) != (rd (rd_L1 t272 (ji14)) (ji19))) = false := bne_eq_false_iff_eq.mpr c22
                   clear c22
                   have H' := Aside0.mk H
                   clear H
                   have p278 : 0 ≤ (x26_2 : Int) := of_decide_eq_true (by first | (with_reducible assumption) | assumption)
                   have q278 : x26_2 < ((rd_L1 t272 x19_1).length : Int) := of_decide_eq_true (by first | (with_reducible assumption) | assumption)
                   obtain ⟨ad278, e278, hx278_0⟩ := Kd.at_int HR275_0.out x26_2 p278 q278
                   cases e278
                   (try replace hx278_0 := (HB.out.cell (World.block_lt_of_cell? w _ hx278_0)).trans hx278_0)
                   replace p278 := eq_true p278
                   replace q278 := eq_true q278
                   have p279 : 0 ≤ ((ji14) : Int) := of_decide_eq_true (by first | (with_reducible assumption) | assumption)
                   have q279 : (ji14) < (t272.length : Int) := of_decide_eq_true (by first | (with_reducible assumption) | assumption)
                   obtain ⟨ad279, A279_0, c279_0, e279, hx279_0, hl279_0, hi279_0⟩ := at_L1 (Kd.S_reads' HO_7.out).2.2 (ji14) p279 q279
                   obtain rfl : ad275 = ad279 := (by injection e279)
                   obtain ⟨ce279, hce279, hMe279, hcc279⟩ := Kd.S_get HO_7.out [] (ji14) p279 (by first | exact q279 | exact of_decide_eq_true (by first | (with_reducible assumption) | assumption) | (have e_ := (Kd.S_reads' HO_7.out).1; omega))
                   obtain ⟨ve279_0, rfl, ge279_0⟩ := hMe279
                   have hv279_0 := hcc279 0 _ rfl
                   rw [Nat.add_zero, show ((Kd.slice 3 (Kd.int .i64))).sz = 1 from rfl, Nat.mul_one] at hv279_0
                   replace hv279_0 := Option.some.inj (hv279_0.symm.trans hx279_0)
                   rw [hv279_0] at ge279_0
                   have HL279_0 := Aside0.mk (show Kd.R (Kd.int .i64) 3 _ _ _ _ (rd_L1 t272 (ji14)) from ge279_0)
                   clear hv279_0 ge279_0
                   clear hcc279 hce279
                   have HR279_0 := Aside0.mk hi279_0
                   have HC279_0 := Aside0.mk hl279_0
                   clear hi279_0 hl279_0
                   replace p279 := eq_true p279
                   replace q279 := eq_true q279
                   have p280 : 0 ≤ (x26_2 : Int) := of_decide_eq_true (by first | (with_reducible assumption) | assumption)
                   have q280 : x26_2 < ((rd_L1 t272 (ji14)).length : Int) := of_decide_eq_true (by first | (with_reducible assumption) | assumption)
                   obtain ⟨ad280, e280, hx280_0⟩ := Kd.at_int (by repeat (first | (with_reducible exact HR279_0.out) | (with_reducible refine Kd.C_alloc ?_ _) | (with_reducible refine Kd.C_drewN ?_ _) | (with_reducible refine Kd.C_drew ?_) | exact HR279_0.out)) x26_2 p280 q280
                   cases e280
                   replace p280 := eq_true p280
                   replace q280 := eq_true q280
                   have p281 : 0 ≤ ((ji14) : Int) := of_decide_eq_true (by first | (with_reducible assumption) | assumption)
                   have q281 : (ji14) < (t272.length : Int) := of_decide_eq_true (by first | (with_reducible assumption) | assumption)
                   obtain ⟨ad281, A281_0, c281_0, e281, hx281_0, hl281_0, hi281_0⟩ := at_L1 (Kd.S_reads' HO_7.out).2.2 (ji14) p281 q281
                   obtain rfl : ad275 = ad281 := (by injection e281)
                   obtain ⟨ce281, hce281, hMe281, hcc281⟩ := Kd.S_get HO_7.out [] (ji14) p281 (by first | exact q281 | exact of_decide_eq_true (by first | (with_reducible assumption) | assumption) | (have e_ := (Kd.S_reads' HO_7.out).1; omega))
                   obtain ⟨ve281_0, rfl, ge281_0⟩ := hMe281
                   have hv281_0 := hcc281 0 _ rfl
                   rw [Nat.add_zero, show ((Kd.slice 3 (Kd.int .i64))).sz = 1 from rfl, Nat.mul_one] at hv281_0
                   replace hv281_0 := Option.some.inj (hv281_0.symm.trans hx281_0)
                   rw [hv281_0] at ge281_0
                   have HL281_0 := Aside0.mk (show Kd.R (Kd.int .i64) 3 _ _ _ _ (rd_L1 t272 (ji14)) from ge281_0)
                   clear hv281_0 ge281_0
                   clear hcc281 hce281
                   have HR281_0 := Aside0.mk hi281_0
                   have HC281_0 := Aside0.mk hl281_0
                   clear hi281_0 hl281_0
                   replace p281 := eq_true p281
                   replace q281 := eq_true q281
                   have ea_ := Option.some.inj (hx279_0.symm.trans hx281_0)
                   injection ea_ with ea_ en_ ec_
                   subst ea_
                   subst ec_
                   clear en_
                   have p282 : 0 ≤ ((ji19) : Int) := of_decide_eq_true (by first | (with_reducible assumption) | assumption)
                   have q282 : (ji19) < ((rd_L1 t272 (ji14)).length : Int) := of_decide_eq_true (by first | (with_reducible assumption) | assumption)
                   obtain ⟨ad282, e282, hx282_0⟩ := Kd.at_int (by repeat (first | (with_reducible exact HR281_0.out) | (with_reducible refine Kd.C_alloc ?_ _) | (with_reducible refine Kd.C_drewN ?_ _) | (with_reducible refine Kd.C_drew ?_) | exact HR281_0.out)) (ji19) p282 q282
                   cases e282
                   replace p282 := eq_true p282
                   replace q282 := eq_true q282
                   go_wp2
                   go_roundg k2
                   case measure => have := HK1.out; have := HK2.out; omega
                   case rel => exact ⟨(x8_2), (wrap64 (x12_2 + (rd (rd_L1 t272 x19_1) x26_2))), (ji19), (by first | rfl | (simp; done) | (simp [*]; done)), (by first | rfl | (simp; done) | (simp [*]; done)), (by first | rfl | (simp; done) | (simp only [← hji19] <;> (first | rfl | simp)) | (simp [*]; done)), H', ⟨by have := HK1.out; have := HK2.out; omega⟩, ⟨by (with_reducible repeat (first | apply Kd.S_alloc | apply Kd.S_drewN | apply Kd.S_drew)); exact HO_7.out⟩, ⟨by (with_reducible repeat (first | apply Kd.S_alloc | apply Kd.S_drewN | apply Kd.S_drew)); exact HO_17.out⟩, ⟨by repeat (first | (with_reducible exact HR275_0.out) | (with_reducible refine Kd.C_alloc ?_ _) | (with_reducible refine Kd.C_drewN ?_ _) | (with_reducible refine Kd.C_drew ?_) | exact HR275_0.out)⟩, ⟨by repeat (first | (with_reducible first | exact HB.out | apply below_alloc | apply pw_below_drewN | apply below_drew1) | exact HB.out)⟩⟩
                  ·rw [if_neg c22] at H
                   have c22b0 : ((rd (rd_L1 t272 x19_1) x26_2) == (rd (rd_L1 t272 (ji14)) (ji19))) = false := beq_eq_false_iff_ne.mpr c22
                   have c22b1 : ((rd (rd_L1 t272 x19_1) x26_2) != (rd (rd_L1 t272 (ji14)) (ji19))) = true := bne_iff_ne.mpr c22
                   have H' := Aside0.mk H
                   clear H
                   have p278 : 0 ≤ (x26_2 : Int) := of_decide_eq_true (by first | (with_reducible assumption) | assumption)
                   have q278 : x26_2 < ((rd_L1 t272 x19_1).length : Int) := of_decide_eq_true (by first | (with_reducible assumption) | assumption)
                   obtain ⟨ad278, e278, hx278_0⟩ := Kd.at_int HR275_0.out x26_2 p278 q278
                   cases e278
                   (try replace hx278_0 := (HB.out.cell (World.block_lt_of_cell? w _ hx278_0)).trans hx278_0)
                   replace p278 := eq_true p278
                   replace q278 := eq_true q278
                   have p279 : 0 ≤ ((ji14) : Int) := of_decide_eq_true (by first | (with_reducible assumption) | assumption)
                   have q279 : (ji14) < (t272.length : Int) := of_decide_eq_true (by first | (with_reducible assumption) | assumption)
                   obtain ⟨ad279, A279_0, c279_0, e279, hx279_0, hl279_0, hi279_0⟩ := at_L1 (Kd.S_reads' HO_7.out).2.2 (ji14) p279 q279
                   obtain rfl : ad275 = ad279 := (by injection e279)
                   obtain ⟨ce279, hce279, hMe279, hcc279⟩ := Kd.S_get HO_7.out [] (ji14) p279 (by first | exact q279 | exact of_decide_eq_true (by first | (with_reducible assumption) | assumption) | (have e_ := (Kd.S_reads' HO_7.out).1; omega))
                   obtain ⟨ve279_0, rfl, ge279_0⟩ := hMe279
                   have hv279_0 := hcc279 0 _ rfl
                   rw [Nat.add_zero, show ((Kd.slice 3 (Kd.int .i64))).sz = 1 from rfl, Nat.mul_one] at hv279_0
                   replace hv279_0 := Option.some.inj (hv279_0.symm.trans hx279_0)
                   rw [hv279_0] at ge279_0
                   have HL279_0 := Aside0.mk (show Kd.R (Kd.int .i64) 3 _ _ _ _ (rd_L1 t272 (ji14)) from ge279_0)
                   clear hv279_0 ge279_0
                   clear hcc279 hce279
                   have HR279_0 := Aside0.mk hi279_0
                   have HC279_0 := Aside0.mk hl279_0
                   clear hi279_0 hl279_0
                   replace p279 := eq_true p279
                   replace q279 := eq_true q279
                   have p280 : 0 ≤ (x26_2 : Int) := of_decide_eq_true (by first | (with_reducible assumption) | assumption)
                   have q280 : x26_2 < ((rd_L1 t272 (ji14)).length : Int) := of_decide_eq_true (by first | (with_reducible assumption) | assumption)
                   obtain ⟨ad280, e280, hx280_0⟩ := Kd.at_int (by repeat (first | (with_reducible exact HR279_0.out) | (with_reducible refine Kd.C_alloc ?_ _) | (with_reducible refine Kd.C_drewN ?_ _) | (with_reducible refine Kd.C_drew ?_) | exact HR279_0.out)) x26_2 p280 q280
                   cases e280
                   replace p280 := eq_true p280
                   replace q280 := eq_true q280
                   have p281 : 0 ≤ ((ji14) : Int) := of_decide_eq_true (by first | (with_reducible assumption) | assumption)
                   have q281 : (ji14) < (t272.length : Int) := of_decide_eq_true (by first | (with_reducible assumption) | assumption)
                   obtain ⟨ad281, A281_0, c281_0, e281, hx281_0, hl281_0, hi281_0⟩ := at_L1 (Kd.S_reads' HO_7.out).2.2 (ji14) p281 q281
                   obtain rfl : ad275 = ad281 := (by injection e281)
                   obtain ⟨ce281, hce281, hMe281, hcc281⟩ := Kd.S_get HO_7.out [] (ji14) p281 (by first | exact q281 | exact of_decide_eq_true (by first | (with_reducible assumption) | assumption) | (have e_ := (Kd.S_reads' HO_7.out).1; omega))
                   obtain ⟨ve281_0, rfl, ge281_0⟩ := hMe281
                   have hv281_0 := hcc281 0 _ rfl
                   rw [Nat.add_zero, show ((Kd.slice 3 (Kd.int .i64))).sz = 1 from rfl, Nat.mul_one] at hv281_0
                   replace hv281_0 := Option.some.inj (hv281_0.symm.trans hx281_0)
                   rw [hv281_0] at ge281_0
                   have HL281_0 := Aside0.mk (show Kd.R (Kd.int .i64) 3 _ _ _ _ (rd_L1 t272 (ji14)) from ge281_0)
                   clear hv281_0 ge281_0
                   clear hcc281 hce281
                   have HR281_0 := Aside0.mk hi281_0
                   have HC281_0 := Aside0.mk hl281_0
                   clear hi281_0 hl281_0
                   replace p281 := eq_true p281
                   replace q281 := eq_true q281
                   have ea_ := Option.some.inj (hx279_0.symm.trans hx281_0)
                   injection ea_ with ea_ en_ ec_
                   subst ea_
                   subst ec_
                   clear en_
                   have p282 : 0 ≤ ((ji19) : Int) := of_decide_eq_true (by first | (with_reducible assumption) | assumption)
                   have q282 : (ji19) < ((rd_L1 t272 (ji14)).length : Int) := of_decide_eq_true (by first | (with_reducible assumption) | assumption)
                   obtain ⟨ad282, e282, hx282_0⟩ := Kd.at_int (by repeat (first | (with_reducible exact HR281_0.out) | (with_reducible refine Kd.C_alloc ?_ _) | (with_reducible refine Kd.C_drewN ?_ _) | (with_reducible refine Kd.C_drew ?_) | exact HR281_0.out)) (ji19) p282 q282
                   cases e282
                   replace p282 := eq_true p282
                   replace q282 := eq_true q282
                   go_wp2
                   go_roundg k2
                   case measure => have := HK1.out; have := HK2.out; omega
                   case rel => exact ⟨(wrap64 (x8_2 * (wrap64 (1 + a2)))), (wrap64 (x12_2 + (rd (rd_L1 t272 x19_1) x26_2))), (ji19), (by first | rfl | (simp; done) | (simp [*]; done)), (by first | rfl | (simp; done) | (simp [*]; done)), (by first | rfl | (simp; done) | (simp only [← hji19] <;> (first | rfl | simp)) | (simp [*]; done)), H', ⟨by have := HK1.out; have := HK2.out; omega⟩, ⟨by (with_reducible repeat (first | apply Kd.S_alloc | apply Kd.S_drewN | apply Kd.S_drew)); exact HO_7.out⟩, ⟨by (with_reducible repeat (first | apply Kd.S_alloc | apply Kd.S_drewN | apply Kd.S_drew)); exact HO_17.out⟩, ⟨by repeat (first | (with_reducible exact HR275_0.out) | (with_reducible refine Kd.C_alloc ?_ _) | (with_reducible refine Kd.C_drewN ?_ _) | (with_reducible refine Kd.C_drew ?_) | exact HR275_0.out)⟩, ⟨by repeat (first | (with_reducible first | exact HB.out | apply below_alloc | apply pw_below_drewN | apply below_drew1) | exact HB.out)⟩⟩
                 ·rw [if_neg c21] at H
                  exact absurd H (by simp)
                ·rw [if_neg c20] at H
                 exact absurd H (by simp)
              ·rw [if_neg c17] at H
               exact absurd H (by simp)
             ·rw [if_neg c16] at H
              exact absurd H (by simp)
            ·rw [if_neg c15] at H
             exact absurd H (by simp)
          ·rw [if_neg c12] at H
           exact absurd H (by simp)
         ·rw [if_neg c11] at H
          exact absurd H (by simp)
        ·rw [if_neg c10] at H
         have c10b0 : decide (x26_2 < ((rd_L1 t272 x19_1).length : Int)) = false := decide_eq_false c10
         clear c10
         by_cases c23 : 0 ≤ x19_1
         ·rw [if_pos c23] at H
          have c23b0 : decide (0 ≤ x19_1) = true := decide_eq_true c23
          clear c23
          by_cases c24 : x19_1 < (l1.length : Int)
          ·rw [if_pos c24] at H
           have c24b0 : decide (x19_1 < (l1.length : Int)) = true := decide_eq_true c24
           clear c24
           replace H := Option.bind_eq_some_iff.mp H
           obtain ⟨t277, A250, H⟩ := H
           replace H : (spec_weSetWeight.l0 k2 l1 a2 t272 (wrap64 (x8_2 * t277)) x12_2 t272 (t272.length : Int) (wrap64 (x19_1 + 1))) = some r := H
           have A25 := Aside0.mk A250
           clear A250
           have H' := Aside0.mk H
           clear H
           have p276 : 0 ≤ (x19_1 : Int) := of_decide_eq_true (by first | (with_reducible assumption) | assumption)
           have q276 : x19_1 < (l1.length : Int) := of_decide_eq_true (by first | (with_reducible assumption) | assumption)
           obtain ⟨ad276, e276, hx276_0⟩ := Kd.at_int HR1.out x19_1 p276 q276
           cases e276
           (try replace hx276_0 := (HB.out.cell (World.block_lt_of_cell? w _ hx276_0)).trans hx276_0)
           replace p276 := eq_true p276
           replace q276 := eq_true q276
           go_wp2_with (first | ((with_reducible refine gate_callee (f := 78) rfl ?_); refine goesL_ (some 78) rfl rfl Try.func78 (by kernel_rfl) rfl #[.int .i64 (rd l1 x19_1), .int .i64 (wrap64 (x12_2 - x9_1))] rfl (by (try simp only [List.map_toArray, List.map_cons, List.map_nil]); first | done | rfl | (simp only [List.length_drop, List.length_take]; rfl)) ?_; (with_reducible refine (spec_wePower.calls k2 (rd l1 x19_1) (wrap64 (x12_2 - x9_1)) t277 _ A25.out).mono ?_); rintro e w' ⟨rfl, ⟨nd, rfl⟩⟩; refine ⟨_, rfl, ?_⟩))
           go_roundg k2
           case measure => have := HK1.out; have := HK2.out; omega
           case rel => exact ⟨(wrap64 (x8_2 * t277)), (x12_2), (wrap64 (x19_1 + 1)), (by first | rfl | (simp; done) | (simp [*]; done)), (by first | rfl | (simp; done) | (simp [*]; done)), (by first | rfl | (simp; done) | (simp [*]; done)), H', ⟨by have := HK1.out; have := HK2.out; omega⟩, ⟨by (with_reducible repeat (first | apply Kd.S_alloc | apply Kd.S_drewN | apply Kd.S_drew)); exact HO_7.out⟩, ⟨by (with_reducible repeat (first | apply Kd.S_alloc | apply Kd.S_drewN | apply Kd.S_drew)); exact HO_17.out⟩, ⟨by repeat (first | (with_reducible first | exact HB.out | apply below_alloc | apply pw_below_drewN | apply below_drew1) | exact HB.out)⟩⟩
          ·rw [if_neg c24] at H
           exact absurd H (by simp)
         ·rw [if_neg c23] at H
          exact absurd H (by simp)
     ·rw [if_neg c9] at H
      exact absurd H (by simp)
    ·rw [if_neg c8] at H
     exact absurd H (by simp)
   ·rw [if_neg c7] at H
    have c7b0 : decide (x19_1 < (t272.length : Int)) = false := decide_eq_false c7
    clear c7
    obtain rfl := Option.some.inj H
    go_wp2
    go_ret
    exact ⟨by first | rfl | (simp [errW_none, errW_some] <;> rfl) | (simp [*, errW_none, errW_some] <;> rfl), by repeat (first | (with_reducible first | exact HB.out | apply below_alloc | apply pw_below_drewN | apply below_drew1) | exact HB.out)⟩

end Go.Proofs.Ytdcdkckpmkfjdaa.P
