-- Written by a program of this session (wip/mkprint.py): out of the translation; Lean checks it.
import Derived.Test.YtlpadkbpbmoliaaPx0
import Derived.Test.YtlpadkbpbmoliaaPx59
import Derived.Test.YtlpadkbpbmoliaaPx118
namespace Go.Proofs.Ytlpadkbpbmoliaa.P
open Go.RowKit Go.Proofs.YtlpadkbpbmoliaaW.PrintWords Go.Proofs.YtlpadkbpbmoliaaW.PrintLast Go.Proofs.YtlpadkbpbmoliaaW.PrintMore
attribute [local go_sem] max2_int min2_int max_two min_two max_three min_three max_four min_four   -- for this text's walks alone
set_option linter.unusedVariables false
set_option linter.unusedSimpArgs false

/-! ### spec_weSetWeight: function 80 -/
mutual
def spec_weSetWeight.l0 : Nat → List Int → Int → List (List Int) → Int → Int → List (List Int) → Int → Int → Option (Int)
  | 0, _, _, _, _, _, _, _, _ => none
  | k + 1, x1, x2, x7, x8, x9, x17, x18, x19 => if x19 < x18 then (if 0 ≤ x19 then (if x19 < (x17.length : Int) then (spec_weSetWeight.l1 k x1 x2 x7 x8 x9 x19 0 x17 x18 x19 (rd_L1 x17 x19) ((rd_L1 x17 x19).length : Int) 0) else (none)) else (none)) else (some x8)
def spec_weSetWeight.l1 : Nat → List Int → Int → List (List Int) → Int → Int → Int → Int → List (List Int) → Int → Int → List Int → Int → Int → Option (Int)
  | 0, _, _, _, _, _, _, _, _, _, _, _, _, _ => none
  | k + 1, x1, x2, x7, x8, x9, x10, x12, x17, x18, x19, x24, x25, x26 => if x26 < x25 then (if 0 ≤ x26 then (if x26 < (x24.length : Int) then (if (wrap64 (x10 + 1)) = (x7.length : Int) then (spec_weSetWeight.l1 k x1 x2 x7 x8 x9 x10 (wrap64 (x12 + (rd x24 x26))) x17 x18 x19 x24 x25 (wrap64 (x26 + 1))) else (if 0 ≤ (wrap64 (x10 + 1)) then (if (wrap64 (x10 + 1)) < (x7.length : Int) then (if x26 < ((rd_L1 x7 (wrap64 (x10 + 1))).length : Int) then (if (rd x24 x26) = (rd (rd_L1 x7 (wrap64 (x10 + 1))) x26) then (spec_weSetWeight.l1 k x1 x2 x7 (wrap64 (x8 * x2)) x9 x10 (wrap64 (x12 + (rd x24 x26))) x17 x18 x19 x24 x25 (wrap64 (x26 + 1))) else (if 0 ≤ (wrap64 (x26 + 1)) then (if (wrap64 (x26 + 1)) < ((rd_L1 x7 (wrap64 (x10 + 1))).length : Int) then (if (rd x24 x26) = (rd (rd_L1 x7 (wrap64 (x10 + 1))) (wrap64 (x26 + 1))) then (spec_weSetWeight.l1 k x1 x2 x7 x8 x9 x10 (wrap64 (x12 + (rd x24 x26))) x17 x18 x19 x24 x25 (wrap64 (x26 + 1))) else (spec_weSetWeight.l1 k x1 x2 x7 (wrap64 (x8 * (wrap64 (1 + x2)))) x9 x10 (wrap64 (x12 + (rd x24 x26))) x17 x18 x19 x24 x25 (wrap64 (x26 + 1)))) else (none)) else (none))) else (none)) else (none)) else (none))) else (none)) else (none)) else (if 0 ≤ x10 then (if x10 < (x1.length : Int) then ((spec_wePower.f k (rd x1 x10) (wrap64 (x12 - x9))).bind fun t453 => (spec_weSetWeight.l0 k x1 x2 x7 (wrap64 (x8 * t453)) x12 x17 x18 (wrap64 (x19 + 1)))) else (none)) else (none))
end
def spec_weSetWeight.f (k : Nat) (l0 : List (List Int)) (l1 : List Int) (a2 : Int) : Option (Int) := (spec_weSets.f k l0).bind fun t448 => (spec_weSetWeight.l0 k l1 a2 t448 1 0 t448 (t448.length : Int) 0)
theorem spec_weSetWeight.mono_l : ∀ k, (∀ y0 y1 y2 y3 y4 y5 y6 y7, LeO (spec_weSetWeight.l0 k y0 y1 y2 y3 y4 y5 y6 y7) (spec_weSetWeight.l0 (k + 1) y0 y1 y2 y3 y4 y5 y6 y7)) ∧ (∀ y0 y1 y2 y3 y4 y5 y6 y7 y8 y9 y10 y11 y12, LeO (spec_weSetWeight.l1 k y0 y1 y2 y3 y4 y5 y6 y7 y8 y9 y10 y11 y12) (spec_weSetWeight.l1 (k + 1) y0 y1 y2 y3 y4 y5 y6 y7 y8 y9 y10 y11 y12))
  | 0 => ⟨fun _ _ _ _ _ _ _ _ r h => by simp [spec_weSetWeight.l0] at h, fun _ _ _ _ _ _ _ _ _ _ _ _ _ r h => by simp [spec_weSetWeight.l1] at h⟩
  | k + 1 => by
    obtain ⟨ih0, ih1⟩ := spec_weSetWeight.mono_l k
    refine ⟨?_, ?_⟩
    · intro y0 y1 y2 y3 y4 y5 y6 y7
      unfold spec_weSetWeight.l0
      repeat' first
      | (with_reducible exact ih0 _ _ _ _ _ _ _ _)
      | (with_reducible exact ih1 _ _ _ _ _ _ _ _ _ _ _ _ _)
      | (with_reducible exact spec_wePower.mono _ _ _)
      | (with_reducible exact spec_weSets.mono _ _)
      | (with_reducible exact LeO.refl _)
      | (with_reducible exact LeO.none _)
      | (with_reducible refine LeO.ite ?_ ?_)
      | (with_reducible refine LeO.bind ?_ (fun _ => ?_))
      | exact ih0 _ _ _ _ _ _ _ _
      | exact ih1 _ _ _ _ _ _ _ _ _ _ _ _ _
      | exact spec_wePower.mono _ _ _
      | exact spec_weSets.mono _ _
      | exact LeO.none _
      | refine LeO.ite ?_ ?_
      | refine LeO.bind ?_ (fun _ => ?_)
    · intro y0 y1 y2 y3 y4 y5 y6 y7 y8 y9 y10 y11 y12
      unfold spec_weSetWeight.l1
      repeat' first
      | (with_reducible exact ih0 _ _ _ _ _ _ _ _)
      | (with_reducible exact ih1 _ _ _ _ _ _ _ _ _ _ _ _ _)
      | (with_reducible exact spec_wePower.mono _ _ _)
      | (with_reducible exact spec_weSets.mono _ _)
      | (with_reducible exact LeO.refl _)
      | (with_reducible exact LeO.none _)
      | (with_reducible refine LeO.ite ?_ ?_)
      | (with_reducible refine LeO.bind ?_ (fun _ => ?_))
      | exact ih0 _ _ _ _ _ _ _ _
      | exact ih1 _ _ _ _ _ _ _ _ _ _ _ _ _
      | exact spec_wePower.mono _ _ _
      | exact spec_weSets.mono _ _
      | exact LeO.none _
      | refine LeO.ite ?_ ?_
      | refine LeO.bind ?_ (fun _ => ?_)
theorem spec_weSetWeight.mono : ∀ a0 a1 a2 k, LeO (spec_weSetWeight.f k a0 a1 a2) (spec_weSetWeight.f (k + 1) a0 a1 a2) := by
  intro a0 a1 a2 k
  obtain ⟨ih0, ih1⟩ := spec_weSetWeight.mono_l k
  unfold spec_weSetWeight.f
  repeat' first
      | (with_reducible exact ih0 _ _ _ _ _ _ _ _)
      | (with_reducible exact ih1 _ _ _ _ _ _ _ _ _ _ _ _ _)
      | (with_reducible exact spec_wePower.mono _ _ _)
      | (with_reducible exact spec_weSets.mono _ _)
      | (with_reducible exact LeO.refl _)
      | (with_reducible exact LeO.none _)
      | (with_reducible refine LeO.ite ?_ ?_)
      | (with_reducible refine LeO.bind ?_ (fun _ => ?_))
      | exact ih0 _ _ _ _ _ _ _ _
      | exact ih1 _ _ _ _ _ _ _ _ _ _ _ _ _
      | exact spec_wePower.mono _ _ _
      | exact spec_weSets.mono _ _
      | exact LeO.none _
      | refine LeO.ite ?_ ?_
      | refine LeO.bind ?_ (fun _ => ?_)
set_option maxHeartbeats 8000000 in
set_option maxRecDepth 100000 in
theorem spec_weSetWeight.calls (k : Nat) (A0 : Option Addr) (c0 : Nat) (l0 : List (List Int)) (A1 : Option Addr) (c1 : Nat) (l1 : List Int) (a2 : Int) (r : Int) (w : World) (hr0 : Kd.C (Kd.slice 3 (Kd.int .i64)) w A0 l0.length l0) (hc0 : l0.length ≤ c0) (hr1 : Kd.C (Kd.int .i64) w A1 l1.length l1) (hc1 : l1.length ≤ c1) (h : spec_weSetWeight.f k l0 l1 a2 = some r) :
    Calls Try.prog 80 #[.slice A0 l0.length c0, .slice A1 l1.length c1, .int .i64 a2] w fun e w' => e = .returned (.int .i64 r) ∧ Below w.heap.size w w' := by
  have HR0 := Aside0.mk hr0
  have HC0 := Aside0.mk hc0
  clear hr0 hc0
  have HR1 := Aside0.mk hr1
  have HC1 := Aside0.mk hc1
  clear hr1 hc1
  have HB := Aside0.mk (Below.refl w.heap.size w)
  have H : ((spec_weSets.f k l0).bind fun t448 => (spec_weSetWeight.l0 k l1 a2 t448 1 0 t448 (t448.length : Int) 0)) = some r := h
  clear h
  replace H := Option.bind_eq_some_iff.mp H
  obtain ⟨t448, A40, H⟩ := H
  replace H : (spec_weSetWeight.l0 k l1 a2 t448 1 0 t448 (t448.length : Int) 0) = some r := H
  have A4 := Aside0.mk A40
  clear A40
  have H' := Aside0.mk H
  clear H
  go_enter Try.func80, Try.ntmps80
  go_wp2_with (first | ((with_reducible refine gate_callee (f := 59) rfl ?_); refine goesL_ (some 16) rfl rfl Try.func59 (by kernel_rfl) rfl #[.slice A0 l0.length c0] rfl (by (try simp only [List.map_toArray, List.map_cons, List.map_nil]); first | done | rfl | (simp only [List.length_drop, List.length_take]; rfl)) ?_; (with_reducible refine (spec_weSets.calls k _ _ l0 t448 _ ?side1 ?side2 A4.out).mono ?_); (case side1 => repeat (first | exact HR0.out | (with_reducible refine Kd.C_alloc ?_ _) | (with_reducible refine Kd.C_drewN ?_ _) | (with_reducible refine Kd.C_drew ?_))); (case side2 => exact HC0.out); rintro e w5 ⟨v449, rfl, ho0, hb⟩; refine ⟨_, rfl, ?_⟩; have n0_ := Aside0.mk (Kd.S_lower ho0 (below_size (by repeat (first | (with_reducible first | exact HB.out | apply below_alloc | apply pw_below_drewN | apply below_drew1) | exact HB.out)))); have n1_ := Aside0.mk (below_step (by repeat (first | (with_reducible first | exact HB.out | apply below_alloc | apply pw_below_drewN | apply below_drew1) | exact HB.out)) hb); clear HB; have HO450 := n0_; have HB := n1_; clear n0_ n1_; (try clear hb); (try clear hb2); (try clear hk); (try clear hi); (try clear ho0); obtain ⟨Ao6, co6, eo6⟩ := Kd.S_slice HO450.out; subst eo6))
  go_loopg [8, 9, 19] k (fun kq v8 v9 v19 w' => ∃ (x8_1 : Int) (x9_1 : Int) (x19_1 : Int), v8 = .int .i64 x8_1 ∧ v9 = .int .i64 x9_1 ∧ v19 = .int .i64 x19_1 ∧ Aside0 (spec_weSetWeight.l0 kq l1 a2 t448 x8_1 x9_1 t448 (t448.length : Int) x19_1 = some r) ∧ Aside0 (kq ≤ k) ∧ Aside0 (Kd.S (Kd.slice 3 (Kd.int .i64)) 29 w' w.heap.size (fun _ => True) (.slice Ao6 t448.length co6) t448) ∧ Aside0 (Kd.S (Kd.slice 3 (Kd.int .i64)) 29 w' w.heap.size (fun _ => True) (.slice Ao6 t448.length co6) t448) ∧ Aside0 (Below w.heap.size w w'))
  case atStart => exact ⟨(1), (0), (0), (by first | rfl | (simp; done) | (simp [*]; done)), (by first | rfl | (simp; done) | (simp [*]; done)), (by first | rfl | (simp; done) | (simp [*]; done)), H', ⟨Nat.le_refl _⟩, ⟨by (with_reducible repeat (first | apply Kd.S_alloc | apply Kd.S_drewN | apply Kd.S_drew)); exact HO450.out⟩, ⟨by (with_reducible repeat (first | apply Kd.S_alloc | apply Kd.S_drewN | apply Kd.S_drew)); exact HO450.out⟩, ⟨by repeat (first | (with_reducible first | exact HB.out | apply below_alloc | apply pw_below_drewN | apply below_drew1) | exact HB.out)⟩⟩
  case round =>
    clear H'
    try clear c1
    try clear p2
    try clear c5
    obtain ⟨x8_1, x9_1, x19_1, rfl, rfl, rfl, HA, HK1, HO_7, HO_17, HB⟩ := hrel
    cases gk with
    | zero => exact absurd HA.out (by simp [spec_weSetWeight.l0])
    | succ k1 =>
      have H := HA.out
      clear HA
      simp only [spec_weSetWeight.l0] at H
      by_cases c7 : x19_1 < (t448.length : Int)
      · rw [if_pos c7] at H
        have c7b0 : decide (x19_1 < (t448.length : Int)) = true := decide_eq_true c7
        clear c7
        by_cases c8 : 0 ≤ x19_1
        · rw [if_pos c8] at H
          have c8b0 : decide (0 ≤ x19_1) = true := decide_eq_true c8
          clear c8
          by_cases c9 : x19_1 < (t448.length : Int)
          · rw [if_pos c9] at H
            have c9b0 : decide (x19_1 < (t448.length : Int)) = true := decide_eq_true c9
            clear c9
            have H' := Aside0.mk H
            clear H
            have p451 : 0 ≤ (x19_1 : Int) := of_decide_eq_true (by first | (with_reducible assumption) | assumption)
            have q451 : x19_1 < (t448.length : Int) := of_decide_eq_true (by first | (with_reducible assumption) | assumption)
            obtain ⟨ad451, A451_0, c451_0, e451, hx451_0, hl451_0, hi451_0⟩ := at_L1 (Kd.S_reads' HO_17.out).2.2 x19_1 p451 q451
            cases e451
            obtain ⟨ce451, hce451, hMe451, hcc451⟩ := Kd.S_get HO_17.out [] x19_1 p451 (by first | exact q451 | exact of_decide_eq_true (by first | (with_reducible assumption) | assumption) | (have e_ := (Kd.S_reads' HO_17.out).1; omega))
            obtain ⟨ve451_0, rfl, ge451_0⟩ := hMe451
            have hv451_0 := hcc451 0 _ rfl
            rw [Nat.add_zero, show ((Kd.slice 3 (Kd.int .i64))).sz = 1 from rfl, Nat.mul_one] at hv451_0
            replace hv451_0 := Option.some.inj (hv451_0.symm.trans hx451_0)
            rw [hv451_0] at ge451_0
            have HL451_0 := Aside0.mk (show Kd.R (Kd.int .i64) 3 _ _ _ _ (rd_L1 t448 x19_1) from ge451_0)
            clear hv451_0 ge451_0
            clear hcc451 hce451
            have HR451_0 := Aside0.mk hi451_0
            have HC451_0 := Aside0.mk hl451_0
            clear hi451_0 hl451_0
            replace p451 := eq_true p451
            replace q451 := eq_true q451
            go_wp2
            go_loopg [8, 12, 26] k1 (fun kq v8 v12 v26 w' => ∃ (x8_2 : Int) (x12_2 : Int) (x26_2 : Int), v8 = .int .i64 x8_2 ∧ v12 = .int .i64 x12_2 ∧ v26 = .int .i64 x26_2 ∧ Aside0 (spec_weSetWeight.l1 kq l1 a2 t448 x8_2 x9_1 x19_1 x12_2 t448 (t448.length : Int) x19_1 (rd_L1 t448 x19_1) ((rd_L1 t448 x19_1).length : Int) x26_2 = some r) ∧ Aside0 (kq ≤ k1) ∧ Aside0 (Kd.S (Kd.slice 3 (Kd.int .i64)) 29 w' w.heap.size (fun _ => True) (.slice (some ad451) t448.length co6) t448) ∧ Aside0 (Kd.S (Kd.slice 3 (Kd.int .i64)) 29 w' w.heap.size (fun _ => True) (.slice (some ad451) t448.length co6) t448) ∧ Aside0 (Kd.C (Kd.int .i64) w' A451_0 (rd_L1 t448 x19_1).length (rd_L1 t448 x19_1)) ∧ Aside0 (Below w.heap.size w w'))
            case atStart => exact ⟨(x8_1), (0), (0), (by first | rfl | (simp; done) | (simp [*]; done)), (by first | rfl | (simp; done) | (simp [*]; done)), (by first | rfl | (simp; done) | (simp [*]; done)), H', ⟨Nat.le_refl _⟩, ⟨by (with_reducible repeat (first | apply Kd.S_alloc | apply Kd.S_drewN | apply Kd.S_drew)); exact HO_7.out⟩, ⟨by (with_reducible repeat (first | apply Kd.S_alloc | apply Kd.S_drewN | apply Kd.S_drew)); exact HO_17.out⟩, ⟨by repeat (first | (with_reducible exact HR451_0.out) | (with_reducible refine Kd.C_alloc ?_ _) | (with_reducible refine Kd.C_drewN ?_ _) | (with_reducible refine Kd.C_drew ?_) | exact HR451_0.out)⟩, ⟨by repeat (first | (with_reducible first | exact HB.out | apply below_alloc | apply pw_below_drewN | apply below_drew1) | exact HB.out)⟩⟩
            case round =>
              clear H'
              try clear c1
              try clear p2
              try clear c4
              try clear p4
              try clear q4
              try clear hx4
              try clear c5
              try clear c7
              try clear c7b0
              try clear c8
              try clear c8b0
              try clear c9
              try clear c9b0
              try clear hx451_0
              try clear p2
              try clear p451
              try clear q451
              obtain ⟨x8_2, x12_2, x26_2, rfl, rfl, rfl, HA, HK2, HO_7, HO_17, HR451_0, HB⟩ := hrel
              cases gk with
              | zero => exact absurd HA.out (by simp [spec_weSetWeight.l1])
              | succ k2 =>
                have H := HA.out
                clear HA
                simp only [spec_weSetWeight.l1] at H
                by_cases c10 : x26_2 < ((rd_L1 t448 x19_1).length : Int)
                · rw [if_pos c10] at H
                  have c10b0 : decide (x26_2 < ((rd_L1 t448 x19_1).length : Int)) = true := decide_eq_true c10
                  clear c10
                  by_cases c11 : 0 ≤ x26_2
                  · rw [if_pos c11] at H
                    have c11b0 : decide (0 ≤ x26_2) = true := decide_eq_true c11
                    clear c11
                    by_cases c12 : x26_2 < ((rd_L1 t448 x19_1).length : Int)
                    · rw [if_pos c12] at H
                      have c12b0 : decide (x26_2 < ((rd_L1 t448 x19_1).length : Int)) = true := decide_eq_true c12
                      clear c12
                      by_cases c13 : (wrap64 (x19_1 + 1)) = (t448.length : Int)
                      · rw [if_pos c13] at H
                        have c13b0 : ((wrap64 (x19_1 + 1)) == (t448.length : Int)) = true := beq_iff_eq.mpr c13
                        have c13b1 : ((wrap64 (x19_1 + 1)) != (t448.length : Int)) = false := bne_eq_false_iff_eq.mpr c13
                        clear c13
                        have H' := Aside0.mk H
                        clear H
                        have p454 : 0 ≤ (x26_2 : Int) := of_decide_eq_true (by first | (with_reducible assumption) | assumption)
                        have q454 : x26_2 < ((rd_L1 t448 x19_1).length : Int) := of_decide_eq_true (by first | (with_reducible assumption) | assumption)
                        obtain ⟨ad454, e454, hx454_0⟩ := Kd.at_int HR451_0.out x26_2 p454 q454
                        cases e454
                        (try replace hx454_0 := (HB.out.cell (World.block_lt_of_cell? w _ hx454_0)).trans hx454_0)
                        replace p454 := eq_true p454
                        replace q454 := eq_true q454
                        go_wp2
                        go_roundg k2
                        case measure => have := HK1.out; have := HK2.out; omega
                        case rel => exact ⟨(x8_2), (wrap64 (x12_2 + (rd (rd_L1 t448 x19_1) x26_2))), (wrap64 (x26_2 + 1)), (by first | rfl | (simp; done) | (simp [*]; done)), (by first | rfl | (simp; done) | (simp [*]; done)), (by first | rfl | (simp; done) | (simp [*]; done)), H', ⟨by have := HK1.out; have := HK2.out; omega⟩, ⟨by (with_reducible repeat (first | apply Kd.S_alloc | apply Kd.S_drewN | apply Kd.S_drew)); exact HO_7.out⟩, ⟨by (with_reducible repeat (first | apply Kd.S_alloc | apply Kd.S_drewN | apply Kd.S_drew)); exact HO_17.out⟩, ⟨by repeat (first | (with_reducible exact HR451_0.out) | (with_reducible refine Kd.C_alloc ?_ _) | (with_reducible refine Kd.C_drewN ?_ _) | (with_reducible refine Kd.C_drew ?_) | exact HR451_0.out)⟩, ⟨by repeat (first | (with_reducible first | exact HB.out | apply below_alloc | apply pw_below_drewN | apply below_drew1) | exact HB.out)⟩⟩
                      · rw [if_neg c13] at H
                        have c13b0 : ((wrap64 (x19_1 + 1)) == (t448.length : Int)) = false := beq_eq_false_iff_ne.mpr c13
                        have c13b1 : ((wrap64 (x19_1 + 1)) != (t448.length : Int)) = true := bne_iff_ne.mpr c13
                        obtain ⟨ji14, hji14⟩ : ∃ j_ : Int, (wrap64 (x19_1 + 1)) = j_ := ⟨_, rfl⟩
                        replace H : (if 0 ≤ (ji14) then (if (ji14) < (t448.length : Int) then (if x26_2 < ((rd_L1 t448 (ji14)).length : Int) then (if (rd (rd_L1 t448 x19_1) x26_2) = (rd (rd_L1 t448 (ji14)) x26_2) then (spec_weSetWeight.l1 k2 l1 a2 t448 (wrap64 (x8_2 * a2)) x9_1 x19_1 (wrap64 (x12_2 + (rd (rd_L1 t448 x19_1) x26_2))) t448 (t448.length : Int) x19_1 (rd_L1 t448 x19_1) ((rd_L1 t448 x19_1).length : Int) (wrap64 (x26_2 + 1))) else (if 0 ≤ (wrap64 (x26_2 + 1)) then (if (wrap64 (x26_2 + 1)) < ((rd_L1 t448 (ji14)).length : Int) then (if (rd (rd_L1 t448 x19_1) x26_2) = (rd (rd_L1 t448 (ji14)) (wrap64 (x26_2 + 1))) then (spec_weSetWeight.l1 k2 l1 a2 t448 x8_2 x9_1 x19_1 (wrap64 (x12_2 + (rd (rd_L1 t448 x19_1) x26_2))) t448 (t448.length : Int) x19_1 (rd_L1 t448 x19_1) ((rd_L1 t448 x19_1).length : Int) (wrap64 (x26_2 + 1))) else (spec_weSetWeight.l1 k2 l1 a2 t448 (wrap64 (x8_2 * (wrap64 (1 + a2)))) x9_1 x19_1 (wrap64 (x12_2 + (rd (rd_L1 t448 x19_1) x26_2))) t448 (t448.length : Int) x19_1 (rd_L1 t448 x19_1) ((rd_L1 t448 x19_1).length : Int) (wrap64 (x26_2 + 1)))) else (none)) else (none))) else (none)) else (none)) else (none)) = some r := by first | (rw [hji14] at H; exact H) | (simp only [hji14] at H ⊢; exact H)
                        (try rw [hji14] at c13b0)
                        (try rw [hji14] at c13b1)
                        have hji14w : (IntKind.i64.wrap (x19_1 + 1)) = ji14 := (i64_w _).trans hji14
                        by_cases c15 : 0 ≤ (ji14)
                        · rw [if_pos c15] at H
                          have c15b0 : decide (0 ≤ (ji14)) = true := decide_eq_true c15
                          clear c15
                          by_cases c16 : (ji14) < (t448.length : Int)
                          · rw [if_pos c16] at H
                            have c16b0 : decide ((ji14) < (t448.length : Int)) = true := decide_eq_true c16
                            clear c16
                            by_cases c17 : x26_2 < ((rd_L1 t448 (ji14)).length : Int)
                            · rw [if_pos c17] at H
                              have c17b0 : decide (x26_2 < ((rd_L1 t448 (ji14)).length : Int)) = true := decide_eq_true c17
                              clear c17
                              by_cases c18 : (rd (rd_L1 t448 x19_1) x26_2) = (rd (rd_L1 t448 (ji14)) x26_2)
                              · rw [if_pos c18] at H
                                have c18b0 : ((rd (rd_L1 t448 x19_1) x26_2) == (rd (rd_L1 t448 (ji14)) x26_2)) = true := beq_iff_eq.mpr c18
                                have c18b1 : ((rd (rd_L1 t448 x19_1) x26_2) != (rd (rd_L1 t448 (ji14)) x26_2)) = false := bne_eq_false_iff_eq.mpr c18
                                clear c18
                                have H' := Aside0.mk H
                                clear H
                                have p454 : 0 ≤ (x26_2 : Int) := of_decide_eq_true (by first | (with_reducible assumption) | assumption)
                                have q454 : x26_2 < ((rd_L1 t448 x19_1).length : Int) := of_decide_eq_true (by first | (with_reducible assumption) | assumption)
                                obtain ⟨ad454, e454, hx454_0⟩ := Kd.at_int HR451_0.out x26_2 p454 q454
                                cases e454
                                (try replace hx454_0 := (HB.out.cell (World.block_lt_of_cell? w _ hx454_0)).trans hx454_0)
                                replace p454 := eq_true p454
                                replace q454 := eq_true q454
                                have p455 : 0 ≤ ((ji14) : Int) := of_decide_eq_true (by first | (with_reducible assumption) | assumption)
                                have q455 : (ji14) < (t448.length : Int) := of_decide_eq_true (by first | (with_reducible assumption) | assumption)
                                obtain ⟨ad455, A455_0, c455_0, e455, hx455_0, hl455_0, hi455_0⟩ := at_L1 (Kd.S_reads' HO_7.out).2.2 (ji14) p455 q455
                                obtain rfl : ad451 = ad455 := (by injection e455)
                                obtain ⟨ce455, hce455, hMe455, hcc455⟩ := Kd.S_get HO_7.out [] (ji14) p455 (by first | exact q455 | exact of_decide_eq_true (by first | (with_reducible assumption) | assumption) | (have e_ := (Kd.S_reads' HO_7.out).1; omega))
                                obtain ⟨ve455_0, rfl, ge455_0⟩ := hMe455
                                have hv455_0 := hcc455 0 _ rfl
                                rw [Nat.add_zero, show ((Kd.slice 3 (Kd.int .i64))).sz = 1 from rfl, Nat.mul_one] at hv455_0
                                replace hv455_0 := Option.some.inj (hv455_0.symm.trans hx455_0)
                                rw [hv455_0] at ge455_0
                                have HL455_0 := Aside0.mk (show Kd.R (Kd.int .i64) 3 _ _ _ _ (rd_L1 t448 (ji14)) from ge455_0)
                                clear hv455_0 ge455_0
                                clear hcc455 hce455
                                have HR455_0 := Aside0.mk hi455_0
                                have HC455_0 := Aside0.mk hl455_0
                                clear hi455_0 hl455_0
                                replace p455 := eq_true p455
                                replace q455 := eq_true q455
                                have p456 : 0 ≤ (x26_2 : Int) := of_decide_eq_true (by first | (with_reducible assumption) | assumption)
                                have q456 : x26_2 < ((rd_L1 t448 (ji14)).length : Int) := of_decide_eq_true (by first | (with_reducible assumption) | assumption)
                                obtain ⟨ad456, e456, hx456_0⟩ := Kd.at_int (by repeat (first | (with_reducible exact HR455_0.out) | (with_reducible refine Kd.C_alloc ?_ _) | (with_reducible refine Kd.C_drewN ?_ _) | (with_reducible refine Kd.C_drew ?_) | exact HR455_0.out)) x26_2 p456 q456
                                cases e456
                                replace p456 := eq_true p456
                                replace q456 := eq_true q456
                                go_wp2
                                go_roundg k2
                                case measure => have := HK1.out; have := HK2.out; omega
                                case rel => exact ⟨(wrap64 (x8_2 * a2)), (wrap64 (x12_2 + (rd (rd_L1 t448 x19_1) x26_2))), (wrap64 (x26_2 + 1)), (by first | rfl | (simp; done) | (simp [*]; done)), (by first | rfl | (simp; done) | (simp [*]; done)), (by first | rfl | (simp; done) | (simp [*]; done)), H', ⟨by have := HK1.out; have := HK2.out; omega⟩, ⟨by (with_reducible repeat (first | apply Kd.S_alloc | apply Kd.S_drewN | apply Kd.S_drew)); exact HO_7.out⟩, ⟨by (with_reducible repeat (first | apply Kd.S_alloc | apply Kd.S_drewN | apply Kd.S_drew)); exact HO_17.out⟩, ⟨by repeat (first | (with_reducible exact HR451_0.out) | (with_reducible refine Kd.C_alloc ?_ _) | (with_reducible refine Kd.C_drewN ?_ _) | (with_reducible refine Kd.C_drew ?_) | exact HR451_0.out)⟩, ⟨by repeat (first | (with_reducible first | exact HB.out | apply below_alloc | apply pw_below_drewN | apply below_drew1) | exact HB.out)⟩⟩
                              · rw [if_neg c18] at H
                                have c18b0 : ((rd (rd_L1 t448 x19_1) x26_2) == (rd (rd_L1 t448 (ji14)) x26_2)) = false := beq_eq_false_iff_ne.mpr c18
                                have c18b1 : ((rd (rd_L1 t448 x19_1) x26_2) != (rd (rd_L1 t448 (ji14)) x26_2)) = true := bne_iff_ne.mpr c18
                                obtain ⟨ji19, hji19⟩ : ∃ j_ : Int, (wrap64 (x26_2 + 1)) = j_ := ⟨_, rfl⟩
                                replace H : (if 0 ≤ (ji19) then (if (ji19) < ((rd_L1 t448 (ji14)).length : Int) then (if (rd (rd_L1 t448 x19_1) x26_2) = (rd (rd_L1 t448 (ji14)) (ji19)) then (spec_weSetWeight.l1 k2 l1 a2 t448 x8_2 x9_1 x19_1 (wrap64 (x12_2 + (rd (rd_L1 t448 x19_1) x26_2))) t448 (t448.length : Int) x19_1 (rd_L1 t448 x19_1) ((rd_L1 t448 x19_1).length : Int) ji19) else (spec_weSetWeight.l1 k2 l1 a2 t448 (wrap64 (x8_2 * (wrap64 (1 + a2)))) x9_1 x19_1 (wrap64 (x12_2 + (rd (rd_L1 t448 x19_1) x26_2))) t448 (t448.length : Int) x19_1 (rd_L1 t448 x19_1) ((rd_L1 t448 x19_1).length : Int) ji19)) else (none)) else (none)) = some r := by first | (rw [hji19] at H; exact H) | (simp only [hji19] at H ⊢; exact H)
                                have hji19w : (IntKind.i64.wrap (x26_2 + 1)) = ji19 := (i64_w _).trans hji19
                                by_cases c20 : 0 ≤ (ji19)
                                · rw [if_pos c20] at H
                                  have c20b0 : decide (0 ≤ (ji19)) = true := decide_eq_true c20
                                  clear c20
                                  by_cases c21 : (ji19) < ((rd_L1 t448 (ji14)).length : Int)
                                  · rw [if_pos c21] at H
                                    have c21b0 : decide ((ji19) < ((rd_L1 t448 (ji14)).length : Int)) = true := decide_eq_true c21
                                    clear c21
                                    by_cases c22 : (rd (rd_L1 t448 x19_1) x26_2) = (rd (rd_L1 t448 (ji14)) (ji19))
                                    · rw [if_pos c22] at H
                                      have c22b0 : ((rd (rd_L1 t448 x19_1) x26_2) == (rd (rd_L1 t448 (ji14)) (ji19))) = true := beq_iff_eq.mpr c22
                                      have c22b1 : ((rd (rd_L1 t448 x19_1) x26_2) != (rd (rd_L1 t448 (ji14)) (ji19))) = false := bne_eq_false_iff_eq.mpr c22
                                      clear c22
                                      have H' := Aside0.mk H
                                      clear H
                                      have p454 : 0 ≤ (x26_2 : Int) := of_decide_eq_true (by first | (with_reducible assumption) | assumption)
                                      have q454 : x26_2 < ((rd_L1 t448 x19_1).length : Int) := of_decide_eq_true (by first | (with_reducible assumption) | assumption)
                                      obtain ⟨ad454, e454, hx454_0⟩ := Kd.at_int HR451_0.out x26_2 p454 q454
                                      cases e454
                                      (try replace hx454_0 := (HB.out.cell (World.block_lt_of_cell? w _ hx454_0)).trans hx454_0)
                                      replace p454 := eq_true p454
                                      replace q454 := eq_true q454
                                      have p455 : 0 ≤ ((ji14) : Int) := of_decide_eq_true (by first | (with_reducible assumption) | assumption)
                                      have q455 : (ji14) < (t448.length : Int) := of_decide_eq_true (by first | (with_reducible assumption) | assumption)
                                      obtain ⟨ad455, A455_0, c455_0, e455, hx455_0, hl455_0, hi455_0⟩ := at_L1 (Kd.S_reads' HO_7.out).2.2 (ji14) p455 q455
                                      obtain rfl : ad451 = ad455 := (by injection e455)
                                      obtain ⟨ce455, hce455, hMe455, hcc455⟩ := Kd.S_get HO_7.out [] (ji14) p455 (by first | exact q455 | exact of_decide_eq_true (by first | (with_reducible assumption) | assumption) | (have e_ := (Kd.S_reads' HO_7.out).1; omega))
                                      obtain ⟨ve455_0, rfl, ge455_0⟩ := hMe455
                                      have hv455_0 := hcc455 0 _ rfl
                                      rw [Nat.add_zero, show ((Kd.slice 3 (Kd.int .i64))).sz = 1 from rfl, Nat.mul_one] at hv455_0
                                      replace hv455_0 := Option.some.inj (hv455_0.symm.trans hx455_0)
                                      rw [hv455_0] at ge455_0
                                      have HL455_0 := Aside0.mk (show Kd.R (Kd.int .i64) 3 _ _ _ _ (rd_L1 t448 (ji14)) from ge455_0)
                                      clear hv455_0 ge455_0
                                      clear hcc455 hce455
                                      have HR455_0 := Aside0.mk hi455_0
                                      have HC455_0 := Aside0.mk hl455_0
                                      clear hi455_0 hl455_0
                                      replace p455 := eq_true p455
                                      replace q455 := eq_true q455
                                      have p456 : 0 ≤ (x26_2 : Int) := of_decide_eq_true (by first | (with_reducible assumption) | assumption)
                                      have q456 : x26_2 < ((rd_L1 t448 (ji14)).length : Int) := of_decide_eq_true (by first | (with_reducible assumption) | assumption)
                                      obtain ⟨ad456, e456, hx456_0⟩ := Kd.at_int (by repeat (first | (with_reducible exact HR455_0.out) | (with_reducible refine Kd.C_alloc ?_ _) | (with_reducible refine Kd.C_drewN ?_ _) | (with_reducible refine Kd.C_drew ?_) | exact HR455_0.out)) x26_2 p456 q456
                                      cases e456
                                      replace p456 := eq_true p456
                                      replace q456 := eq_true q456
                                      have p457 : 0 ≤ ((ji14) : Int) := of_decide_eq_true (by first | (with_reducible assumption) | assumption)
                                      have q457 : (ji14) < (t448.length : Int) := of_decide_eq_true (by first | (with_reducible assumption) | assumption)
                                      obtain ⟨ad457, A457_0, c457_0, e457, hx457_0, hl457_0, hi457_0⟩ := at_L1 (Kd.S_reads' HO_7.out).2.2 (ji14) p457 q457
                                      obtain rfl : ad451 = ad457 := (by injection e457)
                                      obtain ⟨ce457, hce457, hMe457, hcc457⟩ := Kd.S_get HO_7.out [] (ji14) p457 (by first | exact q457 | exact of_decide_eq_true (by first | (with_reducible assumption) | assumption) | (have e_ := (Kd.S_reads' HO_7.out).1; omega))
                                      obtain ⟨ve457_0, rfl, ge457_0⟩ := hMe457
                                      have hv457_0 := hcc457 0 _ rfl
                                      rw [Nat.add_zero, show ((Kd.slice 3 (Kd.int .i64))).sz = 1 from rfl, Nat.mul_one] at hv457_0
                                      replace hv457_0 := Option.some.inj (hv457_0.symm.trans hx457_0)
                                      rw [hv457_0] at ge457_0
                                      have HL457_0 := Aside0.mk (show Kd.R (Kd.int .i64) 3 _ _ _ _ (rd_L1 t448 (ji14)) from ge457_0)
                                      clear hv457_0 ge457_0
                                      clear hcc457 hce457
                                      have HR457_0 := Aside0.mk hi457_0
                                      have HC457_0 := Aside0.mk hl457_0
                                      clear hi457_0 hl457_0
                                      replace p457 := eq_true p457
                                      replace q457 := eq_true q457
                                      have ea_ := Option.some.inj (hx455_0.symm.trans hx457_0)
                                      injection ea_ with ea_ en_ ec_
                                      subst ea_
                                      subst ec_
                                      clear en_
                                      have p458 : 0 ≤ ((ji19) : Int) := of_decide_eq_true (by first | (with_reducible assumption) | assumption)
                                      have q458 : (ji19) < ((rd_L1 t448 (ji14)).length : Int) := of_decide_eq_true (by first | (with_reducible assumption) | assumption)
                                      obtain ⟨ad458, e458, hx458_0⟩ := Kd.at_int (by repeat (first | (with_reducible exact HR457_0.out) | (with_reducible refine Kd.C_alloc ?_ _) | (with_reducible refine Kd.C_drewN ?_ _) | (with_reducible refine Kd.C_drew ?_) | exact HR457_0.out)) (ji19) p458 q458
                                      cases e458
                                      replace p458 := eq_true p458
                                      replace q458 := eq_true q458
                                      go_wp2
                                      go_roundg k2
                                      case measure => have := HK1.out; have := HK2.out; omega
                                      case rel => exact ⟨(x8_2), (wrap64 (x12_2 + (rd (rd_L1 t448 x19_1) x26_2))), (ji19), (by first | rfl | (simp; done) | (simp [*]; done)), (by first | rfl | (simp; done) | (simp [*]; done)), (by first | rfl | (simp; done) | (simp only [← hji19] <;> (first | rfl | simp)) | (simp [*]; done)), H', ⟨by have := HK1.out; have := HK2.out; omega⟩, ⟨by (with_reducible repeat (first | apply Kd.S_alloc | apply Kd.S_drewN | apply Kd.S_drew)); exact HO_7.out⟩, ⟨by (with_reducible repeat (first | apply Kd.S_alloc | apply Kd.S_drewN | apply Kd.S_drew)); exact HO_17.out⟩, ⟨by repeat (first | (with_reducible exact HR451_0.out) | (with_reducible refine Kd.C_alloc ?_ _) | (with_reducible refine Kd.C_drewN ?_ _) | (with_reducible refine Kd.C_drew ?_) | exact HR451_0.out)⟩, ⟨by repeat (first | (with_reducible first | exact HB.out | apply below_alloc | apply pw_below_drewN | apply below_drew1) | exact HB.out)⟩⟩
                                    · rw [if_neg c22] at H
                                      have c22b0 : ((rd (rd_L1 t448 x19_1) x26_2) == (rd (rd_L1 t448 (ji14)) (ji19))) = false := beq_eq_false_iff_ne.mpr c22
                                      have c22b1 : ((rd (rd_L1 t448 x19_1) x26_2) != (rd (rd_L1 t448 (ji14)) (ji19))) = true := bne_iff_ne.mpr c22
                                      have H' := Aside0.mk H
                                      clear H
                                      have p454 : 0 ≤ (x26_2 : Int) := of_decide_eq_true (by first | (with_reducible assumption) | assumption)
                                      have q454 : x26_2 < ((rd_L1 t448 x19_1).length : Int) := of_decide_eq_true (by first | (with_reducible assumption) | assumption)
                                      obtain ⟨ad454, e454, hx454_0⟩ := Kd.at_int HR451_0.out x26_2 p454 q454
                                      cases e454
                                      (try replace hx454_0 := (HB.out.cell (World.block_lt_of_cell? w _ hx454_0)).trans hx454_0)
                                      replace p454 := eq_true p454
                                      replace q454 := eq_true q454
                                      have p455 : 0 ≤ ((ji14) : Int) := of_decide_eq_true (by first | (with_reducible assumption) | assumption)
                                      have q455 : (ji14) < (t448.length : Int) := of_decide_eq_true (by first | (with_reducible assumption) | assumption)
                                      obtain ⟨ad455, A455_0, c455_0, e455, hx455_0, hl455_0, hi455_0⟩ := at_L1 (Kd.S_reads' HO_7.out).2.2 (ji14) p455 q455
                                      obtain rfl : ad451 = ad455 := (by injection e455)
                                      obtain ⟨ce455, hce455, hMe455, hcc455⟩ := Kd.S_get HO_7.out [] (ji14) p455 (by first | exact q455 | exact of_decide_eq_true (by first | (with_reducible assumption) | assumption) | (have e_ := (Kd.S_reads' HO_7.out).1; omega))
                                      obtain ⟨ve455_0, rfl, ge455_0⟩ := hMe455
                                      have hv455_0 := hcc455 0 _ rfl
                                      rw [Nat.add_zero, show ((Kd.slice 3 (Kd.int .i64))).sz = 1 from rfl, Nat.mul_one] at hv455_0
                                      replace hv455_0 := Option.some.inj (hv455_0.symm.trans hx455_0)
                                      rw [hv455_0] at ge455_0
                                      have HL455_0 := Aside0.mk (show Kd.R (Kd.int .i64) 3 _ _ _ _ (rd_L1 t448 (ji14)) from ge455_0)
                                      clear hv455_0 ge455_0
                                      clear hcc455 hce455
                                      have HR455_0 := Aside0.mk hi455_0
                                      have HC455_0 := Aside0.mk hl455_0
                                      clear hi455_0 hl455_0
                                      replace p455 := eq_true p455
                                      replace q455 := eq_true q455
                                      have p456 : 0 ≤ (x26_2 : Int) := of_decide_eq_true (by first | (with_reducible assumption) | assumption)
                                      have q456 : x26_2 < ((rd_L1 t448 (ji14)).length : Int) := of_decide_eq_true (by first | (with_reducible assumption) | assumption)
                                      obtain ⟨ad456, e456, hx456_0⟩ := Kd.at_int (by repeat (first | (with_reducible exact HR455_0.out) | (with_reducible refine Kd.C_alloc ?_ _) | (with_reducible refine Kd.C_drewN ?_ _) | (with_reducible refine Kd.C_drew ?_) | exact HR455_0.out)) x26_2 p456 q456
                                      cases e456
                                      replace p456 := eq_true p456
                                      replace q456 := eq_true q456
                                      have p457 : 0 ≤ ((ji14) : Int) := of_decide_eq_true (by first | (with_reducible assumption) | assumption)
                                      have q457 : (ji14) < (t448.length : Int) := of_decide_eq_true (by first | (with_reducible assumption) | assumption)
                                      obtain ⟨ad457, A457_0, c457_0, e457, hx457_0, hl457_0, hi457_0⟩ := at_L1 (Kd.S_reads' HO_7.out).2.2 (ji14) p457 q457
                                      obtain rfl : ad451 = ad457 := (by injection e457)
                                      obtain ⟨ce457, hce457, hMe457, hcc457⟩ := Kd.S_get HO_7.out [] (ji14) p457 (by first | exact q457 | exact of_decide_eq_true (by first | (with_reducible assumption) | assumption) | (have e_ := (Kd.S_reads' HO_7.out).1; omega))
                                      obtain ⟨ve457_0, rfl, ge457_0⟩ := hMe457
                                      have hv457_0 := hcc457 0 _ rfl
                                      rw [Nat.add_zero, show ((Kd.slice 3 (Kd.int .i64))).sz = 1 from rfl, Nat.mul_one] at hv457_0
                                      replace hv457_0 := Option.some.inj (hv457_0.symm.trans hx457_0)
                                      rw [hv457_0] at ge457_0
                                      have HL457_0 := Aside0.mk (show Kd.R (Kd.int .i64) 3 _ _ _ _ (rd_L1 t448 (ji14)) from ge457_0)
                                      clear hv457_0 ge457_0
                                      clear hcc457 hce457
                                      have HR457_0 := Aside0.mk hi457_0
                                      have HC457_0 := Aside0.mk hl457_0
                                      clear hi457_0 hl457_0
                                      replace p457 := eq_true p457
                                      replace q457 := eq_true q457
                                      have ea_ := Option.some.inj (hx455_0.symm.trans hx457_0)
                                      injection ea_ with ea_ en_ ec_
                                      subst ea_
                                      subst ec_
                                      clear en_
                                      have p458 : 0 ≤ ((ji19) : Int) := of_decide_eq_true (by first | (with_reducible assumption) | assumption)
                                      have q458 : (ji19) < ((rd_L1 t448 (ji14)).length : Int) := of_decide_eq_true (by first | (with_reducible assumption) | assumption)
                                      obtain ⟨ad458, e458, hx458_0⟩ := Kd.at_int (by repeat (first | (with_reducible exact HR457_0.out) | (with_reducible refine Kd.C_alloc ?_ _) | (with_reducible refine Kd.C_drewN ?_ _) | (with_reducible refine Kd.C_drew ?_) | exact HR457_0.out)) (ji19) p458 q458
                                      cases e458
                                      replace p458 := eq_true p458
                                      replace q458 := eq_true q458
                                      go_wp2
                                      go_roundg k2
                                      case measure => have := HK1.out; have := HK2.out; omega
                                      case rel => exact ⟨(wrap64 (x8_2 * (wrap64 (1 + a2)))), (wrap64 (x12_2 + (rd (rd_L1 t448 x19_1) x26_2))), (ji19), (by first | rfl | (simp; done) | (simp [*]; done)), (by first | rfl | (simp; done) | (simp [*]; done)), (by first | rfl | (simp; done) | (simp only [← hji19] <;> (first | rfl | simp)) | (simp [*]; done)), H', ⟨by have := HK1.out; have := HK2.out; omega⟩, ⟨by (with_reducible repeat (first | apply Kd.S_alloc | apply Kd.S_drewN | apply Kd.S_drew)); exact HO_7.out⟩, ⟨by (with_reducible repeat (first | apply Kd.S_alloc | apply Kd.S_drewN | apply Kd.S_drew)); exact HO_17.out⟩, ⟨by repeat (first | (with_reducible exact HR451_0.out) | (with_reducible refine Kd.C_alloc ?_ _) | (with_reducible refine Kd.C_drewN ?_ _) | (with_reducible refine Kd.C_drew ?_) | exact HR451_0.out)⟩, ⟨by repeat (first | (with_reducible first | exact HB.out | apply below_alloc | apply pw_below_drewN | apply below_drew1) | exact HB.out)⟩⟩
                                  · rw [if_neg c21] at H
                                    exact absurd H (by simp)
                                · rw [if_neg c20] at H
                                  exact absurd H (by simp)
                            · rw [if_neg c17] at H
                              exact absurd H (by simp)
                          · rw [if_neg c16] at H
                            exact absurd H (by simp)
                        · rw [if_neg c15] at H
                          exact absurd H (by simp)
                    · rw [if_neg c12] at H
                      exact absurd H (by simp)
                  · rw [if_neg c11] at H
                    exact absurd H (by simp)
                · rw [if_neg c10] at H
                  have c10b0 : decide (x26_2 < ((rd_L1 t448 x19_1).length : Int)) = false := decide_eq_false c10
                  clear c10
                  by_cases c23 : 0 ≤ x19_1
                  · rw [if_pos c23] at H
                    have c23b0 : decide (0 ≤ x19_1) = true := decide_eq_true c23
                    clear c23
                    by_cases c24 : x19_1 < (l1.length : Int)
                    · rw [if_pos c24] at H
                      have c24b0 : decide (x19_1 < (l1.length : Int)) = true := decide_eq_true c24
                      clear c24
                      replace H := Option.bind_eq_some_iff.mp H
                      obtain ⟨t453, A250, H⟩ := H
                      replace H : (spec_weSetWeight.l0 k2 l1 a2 t448 (wrap64 (x8_2 * t453)) x12_2 t448 (t448.length : Int) (wrap64 (x19_1 + 1))) = some r := H
                      have A25 := Aside0.mk A250
                      clear A250
                      have H' := Aside0.mk H
                      clear H
                      have p452 : 0 ≤ (x19_1 : Int) := of_decide_eq_true (by first | (with_reducible assumption) | assumption)
                      have q452 : x19_1 < (l1.length : Int) := of_decide_eq_true (by first | (with_reducible assumption) | assumption)
                      obtain ⟨ad452, e452, hx452_0⟩ := Kd.at_int HR1.out x19_1 p452 q452
                      cases e452
                      (try replace hx452_0 := (HB.out.cell (World.block_lt_of_cell? w _ hx452_0)).trans hx452_0)
                      replace p452 := eq_true p452
                      replace q452 := eq_true q452
                      go_wp2_with (first | ((with_reducible refine gate_callee (f := 118) rfl ?_); refine goesL_ (some 78) rfl rfl Try.func118 (by kernel_rfl) rfl #[.int .i64 (rd l1 x19_1), .int .i64 (wrap64 (x12_2 - x9_1))] rfl (by (try simp only [List.map_toArray, List.map_cons, List.map_nil]); first | done | rfl | (simp only [List.length_drop, List.length_take]; rfl)) ?_; (with_reducible refine (spec_wePower.calls k2 (rd l1 x19_1) (wrap64 (x12_2 - x9_1)) t453 _ A25.out).mono ?_); rintro e w' ⟨rfl, ⟨nd, rfl⟩⟩; refine ⟨_, rfl, ?_⟩))
                      go_roundg k2
                      case measure => have := HK1.out; have := HK2.out; omega
                      case rel => exact ⟨(wrap64 (x8_2 * t453)), (x12_2), (wrap64 (x19_1 + 1)), (by first | rfl | (simp; done) | (simp [*]; done)), (by first | rfl | (simp; done) | (simp [*]; done)), (by first | rfl | (simp; done) | (simp [*]; done)), H', ⟨by have := HK1.out; have := HK2.out; omega⟩, ⟨by (with_reducible repeat (first | apply Kd.S_alloc | apply Kd.S_drewN | apply Kd.S_drew)); exact HO_7.out⟩, ⟨by (with_reducible repeat (first | apply Kd.S_alloc | apply Kd.S_drewN | apply Kd.S_drew)); exact HO_17.out⟩, ⟨by repeat (first | (with_reducible first | exact HB.out | apply below_alloc | apply pw_below_drewN | apply below_drew1) | exact HB.out)⟩⟩
                    · rw [if_neg c24] at H
                      exact absurd H (by simp)
                  · rw [if_neg c23] at H
                    exact absurd H (by simp)
          · rw [if_neg c9] at H
            exact absurd H (by simp)
        · rw [if_neg c8] at H
          exact absurd H (by simp)
      · rw [if_neg c7] at H
        have c7b0 : decide (x19_1 < (t448.length : Int)) = false := decide_eq_false c7
        clear c7
        obtain rfl := Option.some.inj H
        go_wp2
        go_ret
        exact ⟨by first | rfl | (simp [errW_none, errW_some] <;> rfl) | (simp [*, errW_none, errW_some] <;> rfl), by repeat (first | (with_reducible first | exact HB.out | apply below_alloc | apply pw_below_drewN | apply below_drew1) | exact HB.out)⟩

end Go.Proofs.Ytlpadkbpbmoliaa.P
