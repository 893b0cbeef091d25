/- Texts of one chain, in build order. -/
import Derived.Test.YtflhhbpgkjpbdaaZGyrationOrbit5
import Derived.Test.YtflhhbpgkjpbdaaZGyrationOrbit23
-- Written by a program of this session (wip/mkprint.py): out of the translation; Lean checks it.
namespace Go.Proofs.Ytflhhbpgkjpbdaa.P
open Go.RowKit Go.Proofs.YtflhhbpgkjpbdaaW.PrintWords Go.Proofs.YtflhhbpgkjpbdaaW.PrintLast Go.Proofs.YtflhhbpgkjpbdaaW.PrintMore
attribute [local go_sem] max2_int min2_int max_two min_two max_three min_three max_four min_four   -- for this text's walks alone
set_option linter.unusedVariables false
set_option linter.unusedSimpArgs false

/-! ### spec_sgCorners: function 98 -/
mutual
def spec_sgCorners.l0 : Nat → List (List Int) → List (List Int) → Int → Int → Option ((List (List Int)))
 | 0, _, _, _, _ => none
 | k + 1, x0, x3, x12, x13 => if x13 < x12 then (if 0 ≤ x13 then (if x13 < (x0.length : Int) then (spec_sgCorners.l1 k x0 x3 x13 0 x12 x13 (rd_L1 x0 x13) ((rd_L1 x0 x13).length : Int) 0) else (none)) else (none)) else (some x3)
def spec_sgCorners.l1 : Nat → List (List Int) → List (List Int) → Int → Int → Int → Int → List Int → Int → Int → Option ((List (List Int)))
 | 0, _, _, _, _, _, _, _, _, _ => none
 | k + 1, x0, x3, x4, x5, x12, x13, x19, x20, x21 => if x21 < x20 then (if 0 ≤ x21 then (if x21 < (x19.length : Int) then (if 0 ≤ x4 then (if x4 < (x3.length : Int) then (if x21 < ((rd_L1 x3 x4).length : Int) then ((some (x3.set (x4 : Int).toNat ((rd_L1 x3 x4).set (x21 : Int).toNat (wrap64 (x5 + (rd x19 x21)))) : List (List Int))).bind fun y137 => (if x4 > 0 then (if x21 < ((rd_L1 y137 x4).length : Int) then (if 0 ≤ (wrap64 (x4 - 1)) then (if (wrap64 (x4 - 1)) < (x3.length : Int) then (if x21 < ((rd_L1 y137 (wrap64 (x4 - 1))).length : Int) then (spec_sgCorners.l1 k x0 (y137.set (x4 : Int).toNat ((rd_L1 y137 x4).set (x21 : Int).toNat (wrap64 ((rd (rd_L1 y137 x4) x21) + (rd (rd_L1 y137 (wrap64 (x4 - 1))) x21))))) x4 (wrap64 (x5 + (rd x19 x21))) x12 x13 x19 x20 (wrap64 (x21 + 1))) else (none)) else (none)) else (none)) else (none)) else (spec_sgCorners.l1 k x0 y137 x4 (wrap64 (x5 + (rd x19 x21))) x12 x13 x19 x20 (wrap64 (x21 + 1))))) else (none)) else (none)) else (none)) else (none)) else (none)) else (spec_sgCorners.l0 k x0 x3 x12 (wrap64 (x13 + 1)))
end
def spec_sgCorners.f (k : Nat) (l0 : List (List Int)) : Option ((List (List Int))) := (spec_sgZero.f k (l0.length : Int)).bind fun t129 => (spec_sgCorners.l0 k l0 t129 (l0.length : Int) 0)
theorem spec_sgCorners.mono_l : ∀ k, (∀ y0 y1 y2 y3, LeO (spec_sgCorners.l0 k y0 y1 y2 y3) (spec_sgCorners.l0 (k + 1) y0 y1 y2 y3)) ∧ (∀ y0 y1 y2 y3 y4 y5 y6 y7 y8, LeO (spec_sgCorners.l1 k y0 y1 y2 y3 y4 y5 y6 y7 y8) (spec_sgCorners.l1 (k + 1) y0 y1 y2 y3 y4 y5 y6 y7 y8))
 | 0 => ⟨fun _ _ _ _ r h => by simp [spec_sgCorners.l0] at h, fun _ _ _ _ _ _ _ _ _ r h => by simp [spec_sgCorners.l1] at h⟩
 | k + 1 => by
  obtain ⟨ih0, ih1⟩ := spec_sgCorners.mono_l k
  refine ⟨?_, ?_⟩
  ·intro y0 y1 y2 y3
   unfold spec_sgCorners.l0
   repeat' first
   | (with_reducible exact ih0 _ _ _ _)
   | (with_reducible exact ih1 _ _ _ _ _ _ _ _ _)
   | (with_reducible exact spec_sgZero.mono _ _)
   | (with_reducible exact LeO.refl _)
   | (with_reducible exact LeO.none _)
   | (with_reducible refine LeO.ite ?_ ?_)
   | (with_reducible refine LeO.bind ?_ (fun _ => ?_))
   | exact ih0 _ _ _ _
   | exact ih1 _ _ _ _ _ _ _ _ _
   | exact spec_sgZero.mono _ _
   | exact LeO.none _
   | refine LeO.ite ?_ ?_
   | refine LeO.bind ?_ (fun _ => ?_)
  ·intro y0 y1 y2 y3 y4 y5 y6 y7 y8
   unfold spec_sgCorners.l1
   repeat' first
   | (with_reducible exact ih0 _ _ _ _)
   | (with_reducible exact ih1 _ _ _ _ _ _ _ _ _)
   | (with_reducible exact spec_sgZero.mono _ _)
   | (with_reducible exact LeO.refl _)
   | (with_reducible exact LeO.none _)
   | (with_reducible refine LeO.ite ?_ ?_)
   | (with_reducible refine LeO.bind ?_ (fun _ => ?_))
   | exact ih0 _ _ _ _
   | exact ih1 _ _ _ _ _ _ _ _ _
   | exact spec_sgZero.mono _ _
   | exact LeO.none _
   | refine LeO.ite ?_ ?_
   | refine LeO.bind ?_ (fun _ => ?_)
theorem spec_sgCorners.mono : ∀ a0 k, LeO (spec_sgCorners.f k a0) (spec_sgCorners.f (k + 1) a0) := by
 intro a0 k
 obtain ⟨ih0, ih1⟩ := spec_sgCorners.mono_l k
 unfold spec_sgCorners.f
 repeat' first
   | (with_reducible exact ih0 _ _ _ _)
   | (with_reducible exact ih1 _ _ _ _ _ _ _ _ _)
   | (with_reducible exact spec_sgZero.mono _ _)
   | (with_reducible exact LeO.refl _)
   | (with_reducible exact LeO.none _)
   | (with_reducible refine LeO.ite ?_ ?_)
   | (with_reducible refine LeO.bind ?_ (fun _ => ?_))
   | exact ih0 _ _ _ _
   | exact ih1 _ _ _ _ _ _ _ _ _
   | exact spec_sgZero.mono _ _
   | exact LeO.none _
   | refine LeO.ite ?_ ?_
   | refine LeO.bind ?_ (fun _ => ?_)
def spec_sgCorners.T12 : Bool × List (List Nat × List Nat) := (true, [([], []), ([], []), ([0, 1], [0, 1]), ([2], [2]), ([], []), ([3, 4], [3, 4]), ([5], [5]), ([], []), ([], []), ([8], [8]), ([7, 9], [7, 9]), ([10], [10]), ([], []), ([11, 12], [11, 12]), ([13], [13]), ([6, 14], [6, 14]), ([3, 4, 0, 1, 2, 3, 4, 5, 6, 7, 8, 9, 10, 11, 12, 13, 14, 15], [3, 4]), ([16, 15, 0, 1, 2, 3, 4, 5, 6, 7, 8, 9, 10, 11, 12, 13, 14, 15], [15, 16])])
def spec_sgCorners.B12 : List Nat := [0, 0, 3, 7, 0, 31, 63, 0, 0, 256, 896, 1920, 0, 8064, 16256, 32767, 65535, 131071]
theorem spec_sgCorners.tab12 : rtab .any (opsOf Try.f98 12) = spec_sgCorners.T12 := by kernel_rfl
theorem spec_sgCorners.bits12 : waitsOk spec_sgCorners.T12.2 spec_sgCorners.B12 = true := by kernel_rfl
set_option maxHeartbeats 8000000 in
set_option maxRecDepth 100000 in
theorem spec_sgCorners.calls (k : Nat) (A0 : Option Addr) (c0 : Nat) (l0 : List (List Int)) (r : List (List Int)) (w : World) (hr0 : Kd.C (Kd.slice 3 (Kd.int .i64)) w A0 l0.length l0) (hc0 : l0.length ≤ c0) (h : spec_sgCorners.f k l0 = some r) :
  Calls Try.prog 98 #[.slice A0 l0.length c0] w fun e w' => ∃ v0_ : Value, e = .returned (v0_) ∧ Kd.S (Kd.slice 3 (Kd.int .i64)) 43 w' w.heap.size (fun _ => True) v0_ r ∧ Below w.heap.size w w' := by
 have HR0 := Aside0.mk hr0
 have HC0 := Aside0.mk hc0
 clear hr0 hc0
 have HB := Aside0.mk (Below.refl w.heap.size w)
 have H : ((spec_sgZero.f k (l0.length : Int)).bind fun t129 => (spec_sgCorners.l0 k l0 t129 (l0.length : Int) 0)) = some r := h
 clear h
 replace H := Option.bind_eq_some_iff.mp H
 obtain ⟨t129, A20, H⟩ := H
 replace H : (spec_sgCorners.l0 k l0 t129 (l0.length : Int) 0) = some r := H
 have A2 := Aside0.mk A20
 clear A20
 have H' := Aside0.mk H
 clear H
 go_enter Try.func98, Try.ntmps98
 go_wp2_with (first | ((with_reducible refine gate_callee (f := 112) rfl ?_); refine goesL_ (some 10) rfl rfl Try.func112 (by kernel_rfl) rfl #[.int .i64 (l0.length : Int)] rfl (by (try simp only [List.map_toArray, List.map_cons, List.map_nil]); first | done | rfl | (simp only [List.length_drop, List.length_take]; rfl)) ?_; (with_reducible refine (spec_sgZero.calls k (l0.length : Int) t129 _ A2.out).mono ?_); rintro e w3 ⟨v130, rfl, ho0, hb⟩; refine ⟨_, rfl, ?_⟩; have n0_ := Aside0.mk (Kd.S_lower ho0 (below_size (by repeat (first | (with_reducible first | exact HB.out | apply below_alloc | apply pw_below_drewN | apply below_drew1) | exact HB.out)))); have n1_ := Aside0.mk (below_step (by repeat (first | (with_reducible first | exact HB.out | apply below_alloc | apply pw_below_drewN | apply below_drew1) | exact HB.out)) hb); clear HB; have HO131 := n0_; have HB := n1_; clear n0_ n1_; (try clear hb); (try clear hb2); (try clear hk); (try clear hi); (try clear ho0)))
 go_loopg [13] k (fun kq v13 w' => ∃ (x3_1 : List (List Int)) (x13_1 : Int), v13 = .int .i64 x13_1 ∧ Aside0 (spec_sgCorners.l0 kq l0 x3_1 (l0.length : Int) x13_1 = some r) ∧ Aside0 (kq ≤ k) ∧ Aside0 (Kd.S (Kd.slice 3 (Kd.int .i64)) 43 w' w.heap.size (fun _ => True) v130 x3_1) ∧ Aside0 (Below w.heap.size w w'))
 case atStart => exact ⟨(t129), (0), (by first | rfl | (simp; done) | (simp [*]; done)), H', ⟨Nat.le_refl _⟩, ⟨by (with_reducible repeat (first | apply Kd.S_alloc | apply Kd.S_drewN | apply Kd.S_drew)); exact HO131.out⟩, ⟨by repeat (first | (with_reducible first | exact HB.out | apply below_alloc | apply pw_below_drewN | apply below_drew1) | exact HB.out)⟩⟩
 case round =>
  clear H'
  try clear c1
  try clear p2
  obtain ⟨x3_1, x13_1, rfl, HA, HK1, HO_3, HB⟩ := hrel
  cases gk with
  | zero => exact absurd HA.out (by simp [spec_sgCorners.l0])
  | succ k1 =>
   have H := HA.out
   clear HA
   simp only [spec_sgCorners.l0] at H
   by_cases c4 : x13_1 < (l0.length : Int)
   ·rw [if_pos c4] at H
    have c4b0 : decide (x13_1 < (l0.length : Int)) = true := decide_eq_true c4
    clear c4
    by_cases c5 : 0 ≤ x13_1
    ·rw [if_pos c5] at H
     have c5b0 : decide (0 ≤ x13_1) = true := decide_eq_true c5
     clear c5
     by_cases c6 : x13_1 < (l0.length : Int)
     ·rw [if_pos c6] at H
      have c6b0 : decide (x13_1 < (l0.length : Int)) = true := decide_eq_true c6
      clear c6
      have H' := Aside0.mk H
      clear H
      have p132 : 0 ≤ (x13_1 : Int) := of_decide_eq_true (by assumption)
      have q132 : x13_1 < (l0.length : Int) := of_decide_eq_true (by assumption)
      obtain ⟨ad132, A132_0, c132_0, e132, hx132_0, hl132_0, hi132_0⟩ := at_L1 HR0.out x13_1 p132 q132
      cases e132
      (try replace hx132_0 := (HB.out.cell (World.block_lt_of_cell? w _ hx132_0)).trans hx132_0)
      have HR132_0 := Aside0.mk hi132_0
      have HC132_0 := Aside0.mk hl132_0
      clear hi132_0 hl132_0
      replace p132 := eq_true p132
      replace q132 := eq_true q132
      go_wp2
      go_loopg [5, 21] k1 (fun kq v5 v21 w' => ∃ (x3_2 : List (List Int)) (x5_2 : Int) (x21_2 : Int), v5 = .int .i64 x5_2 ∧ v21 = .int .i64 x21_2 ∧ Aside0 (spec_sgCorners.l1 kq l0 x3_2 x13_1 x5_2 (l0.length : Int) x13_1 (rd_L1 l0 x13_1) ((rd_L1 l0 x13_1).length : Int) x21_2 = some r) ∧ Aside0 (kq ≤ k1) ∧ Aside0 (Kd.S (Kd.slice 3 (Kd.int .i64)) 43 w' w.heap.size (fun _ => True) v130 x3_2) ∧ Aside0 (Below w.heap.size w w'))
      case atStart => exact ⟨(x3_1), (0), (0), (by first | rfl | (simp; done) | (simp [*]; done)), (by first | rfl | (simp; done) | (simp [*]; done)), H', ⟨Nat.le_refl _⟩, ⟨by (with_reducible repeat (first | apply Kd.S_alloc | apply Kd.S_drewN | apply Kd.S_drew)); exact HO_3.out⟩, ⟨by repeat (first | (with_reducible first | exact HB.out | apply below_alloc | apply pw_below_drewN | apply below_drew1) | exact HB.out)⟩⟩
      case round =>
       clear H'
       try clear c1
       try clear p1
       try clear q1
       try clear hx1
       try clear p2
       try clear c4
       try clear c4b0
       try clear c5
       try clear c5b0
       try clear c6
       try clear c6b0
       try clear hx132_0
       try clear p132
       try clear p2
       try clear q132
       obtain ⟨x3_2, x5_2, x21_2, rfl, rfl, HA, HK2, HO_3, HB⟩ := hrel
       cases gk with
       | zero => exact absurd HA.out (by simp [spec_sgCorners.l1])
       | succ k2 =>
        have H := HA.out
        clear HA
        simp only [spec_sgCorners.l1] at H
        by_cases c7 : x21_2 < ((rd_L1 l0 x13_1).length : Int)
        ·rw [if_pos c7] at H
         have c7b0 : decide (x21_2 < ((rd_L1 l0 x13_1).length : Int)) = true := decide_eq_true c7
         clear c7
         by_cases c8 : 0 ≤ x21_2
         ·rw [if_pos c8] at H
          have c8b0 : decide (0 ≤ x21_2) = true := decide_eq_true c8
          clear c8
          by_cases c9 : x21_2 < ((rd_L1 l0 x13_1).length : Int)
          ·rw [if_pos c9] at H
           have c9b0 : decide (x21_2 < ((rd_L1 l0 x13_1).length : Int)) = true := decide_eq_true c9
           clear c9
           by_cases c10 : 0 ≤ x13_1
           ·rw [if_pos c10] at H
            have c10b0 : decide (0 ≤ x13_1) = true := decide_eq_true c10
            clear c10
            by_cases c11 : x13_1 < (x3_2.length : Int)
            ·rw [if_pos c11] at H
             have c11b0 : decide (x13_1 < (x3_2.length : Int)) = true := decide_eq_true c11
             clear c11
             by_cases c12 : x21_2 < ((rd_L1 x3_2 x13_1).length : Int)
             ·rw [if_pos c12] at H
              have c12b0 : decide (x21_2 < ((rd_L1 x3_2 x13_1).length : Int)) = true := decide_eq_true c12
              clear c12
              obtain ⟨y135, hy135⟩ : ∃ y_ : List Int, y_ = ((rd_L1 x3_2 x13_1).set (x21_2 : Int).toNat (wrap64 (x5_2 + (rd (rd_L1 l0 x13_1) x21_2)))) := ⟨_, rfl⟩
              replace H : ((some (x3_2.set (x13_1 : Int).toNat y135 : List (List Int))).bind fun y137 => (if x13_1 > 0 then (if x21_2 < ((rd_L1 y137 x13_1).length : Int) then (if 0 ≤ (wrap64 (x13_1 - 1)) then (if (wrap64 (x13_1 - 1)) < (x3_2.length : Int) then (if x21_2 < ((rd_L1 y137 (wrap64 (x13_1 - 1))).length : Int) then (spec_sgCorners.l1 k2 l0 (y137.set (x13_1 : Int).toNat ((rd_L1 y137 x13_1).set (x21_2 : Int).toNat (wrap64 ((rd (rd_L1 y137 x13_1) x21_2) + (rd (rd_L1 y137 (wrap64 (x13_1 - 1))) x21_2))))) x13_1 (wrap64 (x5_2 + (rd (rd_L1 l0 x13_1) x21_2))) (l0.length : Int) x13_1 (rd_L1 l0 x13_1) ((rd_L1 l0 x13_1).length : Int) (wrap64 (x21_2 + 1))) else (none)) else (none)) else (none)) else (none)) else (spec_sgCorners.l1 k2 l0 y137 x13_1 (wrap64 (x5_2 + (rd (rd_L1 l0 x13_1) x21_2))) (l0.length : Int) x13_1 (rd_L1 l0 x13_1) ((rd_L1 l0 x13_1).length : Int) (wrap64 (x21_2 + 1))))) = some r := by first | (rw [hy135]; with_reducible exact H) | (have H2_ := (Option.bind_some _ _).symm.trans H; rw [hy135]; with_reducible exact H2_) | (have H2_ := (Option.bind_some _ _).symm.trans H; with_reducible exact H2_) | with_reducible exact H | (rw [hy135]; exact H) | exact H
              have Ny135 := Aside0.mk hy135
              clear hy135
              obtain ⟨y137, hy137⟩ : ∃ y_ : List (List Int), y_ = (x3_2.set (x13_1 : Int).toNat y135) := ⟨_, rfl⟩
              replace H : (if x13_1 > 0 then (if x21_2 < ((rd_L1 y137 x13_1).length : Int) then (if 0 ≤ (wrap64 (x13_1 - 1)) then (if (wrap64 (x13_1 - 1)) < (x3_2.length : Int) then (if x21_2 < ((rd_L1 y137 (wrap64 (x13_1 - 1))).length : Int) then (spec_sgCorners.l1 k2 l0 (y137.set (x13_1 : Int).toNat ((rd_L1 y137 x13_1).set (x21_2 : Int).toNat (wrap64 ((rd (rd_L1 y137 x13_1) x21_2) + (rd (rd_L1 y137 (wrap64 (x13_1 - 1))) x21_2))))) x13_1 (wrap64 (x5_2 + (rd (rd_L1 l0 x13_1) x21_2))) (l0.length : Int) x13_1 (rd_L1 l0 x13_1) ((rd_L1 l0 x13_1).length : Int) (wrap64 (x21_2 + 1))) else (none)) else (none)) else (none)) else (none)) else (spec_sgCorners.l1 k2 l0 y137 x13_1 (wrap64 (x5_2 + (rd (rd_L1 l0 x13_1) x21_2))) (l0.length : Int) x13_1 (rd_L1 l0 x13_1) ((rd_L1 l0 x13_1).length : Int) (wrap64 (x21_2 + 1)))) = some r := by first | (rw [hy137]; with_reducible exact H) | (have H2_ := (Option.bind_some _ _).symm.trans H; rw [hy137]; with_reducible exact H2_) | (have H2_ := (Option.bind_some _ _).symm.trans H; with_reducible exact H2_) | with_reducible exact H | (rw [hy137]; exact H) | exact H
              have Ny137 := Aside0.mk hy137
              clear hy137
              by_cases c14 : x13_1 > 0
              ·rw [if_pos c14] at H
               have c14b0 : decide (0 < x13_1) = true := decide_eq_true c14
               clear c14
               by_cases c15 : x21_2 < ((rd_L1 y137 x13_1).length : Int)
               ·rw [if_pos c15] at H
                have c15b0 : decide (x21_2 < ((rd_L1 y137 x13_1).length : Int)) = true := decide_eq_true c15
                clear c15
                obtain ⟨ji16, hji16⟩ : ∃ j_ : Int, (wrap64 (x13_1 - 1)) = j_ := ⟨_, rfl⟩
                replace H : (if 0 ≤ (ji16) then (if (ji16) < (x3_2.length : Int) then (if x21_2 < ((rd_L1 y137 (ji16)).length : Int) then (spec_sgCorners.l1 k2 l0 (y137.set (x13_1 : Int).toNat ((rd_L1 y137 x13_1).set (x21_2 : Int).toNat (wrap64 ((rd (rd_L1 y137 x13_1) x21_2) + (rd (rd_L1 y137 (ji16)) x21_2))))) x13_1 (wrap64 (x5_2 + (rd (rd_L1 l0 x13_1) x21_2))) (l0.length : Int) x13_1 (rd_L1 l0 x13_1) ((rd_L1 l0 x13_1).length : Int) (wrap64 (x21_2 + 1))) else (none)) else (none)) else (none)) = some r := by first | (rw [hji16] at H; exact H) | (simp only [hji16] at H ⊢; exact H)
                have hji16w : (IntKind.i64.wrap (x13_1 - 1)) = ji16 := (i64_w _).trans hji16
                by_cases c17 : 0 ≤ (ji16)
                ·rw [if_pos c17] at H
                 have c17b0 : decide (0 ≤ (ji16)) = true := decide_eq_true c17
                 clear c17
                 by_cases c18 : (ji16) < (x3_2.length : Int)
                 ·rw [if_pos c18] at H
                  have c18b0 : decide ((ji16) < (x3_2.length : Int)) = true := decide_eq_true c18
                  clear c18
                  by_cases c19 : x21_2 < ((rd_L1 y137 (ji16)).length : Int)
                  ·rw [if_pos c19] at H
                   have c19b0 : decide (x21_2 < ((rd_L1 y137 (ji16)).length : Int)) = true := decide_eq_true c19
                   clear c19
                   obtain ⟨y142, hy142⟩ : ∃ y_ : List Int, y_ = ((rd_L1 y137 x13_1).set (x21_2 : Int).toNat (wrap64 ((rd (rd_L1 y137 x13_1) x21_2) + (rd (rd_L1 y137 (ji16)) x21_2)))) := ⟨_, rfl⟩
                   replace H : (spec_sgCorners.l1 k2 l0 (y137.set (x13_1 : Int).toNat y142) x13_1 (wrap64 (x5_2 + (rd (rd_L1 l0 x13_1) x21_2))) (l0.length : Int) x13_1 (rd_L1 l0 x13_1) ((rd_L1 l0 x13_1).length : Int) (wrap64 (x21_2 + 1))) = some r := by first | (rw [hy142]; with_reducible exact H) | (have H2_ := (Option.bind_some _ _).symm.trans H; rw [hy142]; with_reducible exact H2_) | (have H2_ := (Option.bind_some _ _).symm.trans H; with_reducible exact H2_) | with_reducible exact H | (rw [hy142]; exact H) | exact H
                   have Ny142 := Aside0.mk hy142
                   clear hy142
                   obtain ⟨y144, hy144⟩ : ∃ y_ : List (List Int), y_ = (y137.set (x13_1 : Int).toNat y142) := ⟨_, rfl⟩
                   replace H : (spec_sgCorners.l1 k2 l0 y144 x13_1 (wrap64 (x5_2 + (rd (rd_L1 l0 x13_1) x21_2))) (l0.length : Int) x13_1 (rd_L1 l0 x13_1) ((rd_L1 l0 x13_1).length : Int) (wrap64 (x21_2 + 1))) = some r := by first | (rw [hy144]; with_reducible exact H) | (have H2_ := (Option.bind_some _ _).symm.trans H; rw [hy144]; with_reducible exact H2_) | (have H2_ := (Option.bind_some _ _).symm.trans H; with_reducible exact H2_) | with_reducible exact H | (rw [hy144]; exact H) | exact H
                   have Ny144 := Aside0.mk hy144
                   clear hy144
                   have H' := Aside0.mk H
                   clear H
                   have p133 : 0 ≤ (x21_2 : Int) := of_decide_eq_true (by assumption)
                   have q133 : x21_2 < ((rd_L1 l0 x13_1).length : Int) := of_decide_eq_true (by assumption)
                   obtain ⟨ad133, e133, hx133_0⟩ := Kd.at_int HR132_0.out x21_2 p133 q133
                   cases e133
                   (try replace hx133_0 := (HB.out.cell (World.block_lt_of_cell? w _ hx133_0)).trans hx133_0)
                   replace p133 := eq_true p133
                   replace q133 := eq_true q133
                   obtain ⟨Ao21, co21, eo21⟩ := Kd.S_slice HO_3.out
                   subst eo21
                   have p134 : 0 ≤ (x13_1 : Int) := of_decide_eq_true (by assumption)
                   have q134 : x13_1 < (x3_2.length : Int) := of_decide_eq_true (by assumption)
                   obtain ⟨ad134, A134_0, c134_0, e134, hx134_0, hl134_0, hi134_0⟩ := at_L1 (Kd.S_reads' HO_3.out).2.2 x13_1 p134 q134
                   cases e134
                   obtain ⟨ce134, hce134, hMe134, hcc134⟩ := Kd.S_get HO_3.out [] x13_1 p134 (by first | exact q134 | exact of_decide_eq_true (by assumption) | (have e_ := (Kd.S_reads' HO_3.out).1; omega))
                   obtain ⟨ve134_0, rfl, ge134_0⟩ := hMe134
                   have hv134_0 := hcc134 0 _ rfl
                   rw [Nat.add_zero, show ((Kd.slice 3 (Kd.int .i64))).sz = 1 from rfl, Nat.mul_one] at hv134_0
                   replace hv134_0 := Option.some.inj (hv134_0.symm.trans hx134_0)
                   rw [hv134_0] at ge134_0
                   have HL134_0 := Aside0.mk (show Kd.R (Kd.int .i64) 3 _ _ _ _ (rd_L1 x3_2 x13_1) from ge134_0)
                   clear hv134_0 ge134_0
                   have HX134_0 := Aside0.mk hx134_0
                   clear hcc134 hce134
                   have HR134_0 := Aside0.mk hi134_0
                   have HC134_0 := Aside0.mk hl134_0
                   clear hi134_0 hl134_0
                   replace p134 := eq_true p134
                   replace q134 := eq_true q134
                   have p13 : 0 ≤ (x21_2 : Int) := of_decide_eq_true (by assumption)
                   have q13 : (x21_2 : Int) < (((rd_L1 x3_2 x13_1).length : Int) : Int) := of_decide_eq_true (by assumption)
                   obtain ⟨go13, co13, eo13, gb13, gl13, cl13, HG13⟩ := Kd.R_form HL134_0.out (by omega)
                   (first | cases eo13 | (injection eo13 with ea_ en_ ec_; (first | subst ea_ | (injection ea_ with ea_; subst ea_)); subst ec_; clear en_))
                   have GB13 := Aside0.mk gb13
                   have GG13 := Aside0.mk HG13
                   clear gb13 gl13 HG13
                   obtain ⟨hx13_0, hf13_0⟩ := Kd.R_celln 0 HL134_0.out (x21_2 : Int) p13 q13
                   replace p13 := eq_true p13
                   replace q13 := eq_true q13
                   have hq22 : (x13_1 : Int) < (x3_2.length : Int) := (by have h_ : (x13_1 : Int) < ((x3_2.length : Int) : Int) := of_decide_eq_true (by assumption); first | exact h_ | (have e_ := (Kd.S_reads' HO_3.out).1; omega) | simpa only [List.length_set, List.length_set] using h_)
                   obtain ⟨oki22, ce22, hcl22, hM22, hcc22, hok22, hbk22⟩ := Kd.S_borrow HO_3.out [] (x13_1 : Int) (of_decide_eq_true (by assumption)) (by first | exact hq22 | (have e_ := (Kd.S_reads' HO_3.out).1; omega))
                   obtain ⟨ve22_0, rfl, ge22_0⟩ := hM22
                   have hv22 := hcc22 0 _ rfl
                   rw [Nat.add_zero, show ((Kd.slice 3 (Kd.int .i64))).sz = 1 from rfl, Nat.mul_one] at hv22
                   replace hv22 := Option.some.inj (hv22.symm.trans HX134_0.out)
                   subst hv22
                   clear hcc22 hcl22
                   replace ge22_0 := (show Kd.R (Kd.int .i64) 3 _ _ _ _ (rd_L1 x3_2 x13_1) from ge22_0)
                   have HP22 := Kd.R_putg ge22_0 (x21_2 : Int) (wrap64 (x5_2 + (rd (rd_L1 l0 x13_1) x21_2)))
                   try go_wp2_with (first | ((with_reducible refine gate_store (t := 3) (p := 35) rfl ?_); refine store_event (t := 3) (p := 35) (v := ?vo_w23) (w1 := (wr.setCell ⟨go13, (x21_2 : Int).toNat, none⟩ (.int .i64 (wrap64 (x5_2 + (rd (rd_L1 l0 x13_1) x21_2)))))) ?hg ?ho ?hn ?hr ?_; (case ho => rfl); (case hg => rfl); (case hn => rfl); (case hr => first | (go_simp; done) | (go_simp; rfl)); intro w23 hw; have hg : wr.grownBy w23 (some go13) := (by rw [hw]; exact HP22.2); have hz_ : Kd.R (Kd.int .i64) 3 w23 w.heap.size oki22 (.slice (some ⟨go13, 0, none⟩) (rd_L1 x3_2 x13_1).length c134_0) y135 := (by rw [hw, Ny135.out]; exact HP22.1); have hp_ : Kd.S (Kd.slice 3 (Kd.int .i64)) 43 w23 w.heap.size (fun _ => True) (.slice (some ad134) x3_2.length co21) y137 := (by rw [Ny137.out]; exact hbk22 hg (fun k_ e_ => by injection e_ with e_; subst e_; exact ge22_0.1 _ rfl) (Kd.M_row hz_)); have hm_ := Kd.R_mono hz_ hok22; clear HP22 hbk22; have n0_ := Aside0.mk (hp_); have n1_ := Aside0.mk ((by rw [hw]; exact below_set (HB.out) GB13.out : Below w.heap.size w w23)); have n2_ := Aside0.mk (hm_); have n3_ := Aside0.mk ((Kd.R_reads' hm_).2.1); clear HO_3; clear HB; clear HL134_0; have HO_3 := n0_; have HB := n1_; have HL145 := n2_; have HC136 := n3_; clear n0_ n1_ n2_ n3_; clear hg hw hp_ hz_ hm_ hok22))
                   have n0_ := Aside0.mk (Kd.S_drew HO_3.out)
                   have n1_ := Aside0.mk (Kd.R_drew HL145.out)
                   have n2_ := Aside0.mk (below_drew1 HB.out)
                   clear HO_3
                   clear HL145
                   clear HB
                   have HO_3 := n0_
                   have HL145 := n1_
                   have HB := n2_
                   clear n0_ n1_ n2_
                   have p138 : 0 ≤ (x13_1 : Int) := of_decide_eq_true (by assumption)
                   have q138 : x13_1 < (y137.length : Int) := (by have h_ : (x13_1 : Int) < ((x3_2.length : Int) : Int) := of_decide_eq_true (by assumption); first | (have e_ := (Kd.S_reads' HO_3.out).1; omega) | simpa only [Ny137.out, List.length_set] using h_)
                   have ql138 : ((x13_1 : Int) < ((x3_2.length : Int) : Int)) = True := eq_true (of_decide_eq_true (by assumption))
                   obtain ⟨ad138, A138_0, c138_0, e138, hx138_0, hl138_0, hi138_0⟩ := at_L1 (Kd.S_reads' HO_3.out).2.2 x13_1 p138 q138
                   obtain rfl : ad134 = ad138 := (by injection e138)
                   obtain ⟨ce138, hce138, hMe138, hcc138⟩ := Kd.S_get HO_3.out [] x13_1 p138 (by first | exact q138 | exact of_decide_eq_true (by assumption) | (have e_ := (Kd.S_reads' HO_3.out).1; omega))
                   obtain ⟨ve138_0, rfl, ge138_0⟩ := hMe138
                   have hv138_0 := hcc138 0 _ rfl
                   rw [Nat.add_zero, show ((Kd.slice 3 (Kd.int .i64))).sz = 1 from rfl, Nat.mul_one] at hv138_0
                   replace hv138_0 := Option.some.inj (hv138_0.symm.trans hx138_0)
                   rw [hv138_0] at ge138_0
                   have HL138_0 := Aside0.mk (show Kd.R (Kd.int .i64) 3 _ _ _ _ (rd_L1 y137 x13_1) from ge138_0)
                   clear hv138_0 ge138_0
                   have HX138_0 := Aside0.mk hx138_0
                   clear hcc138 hce138
                   have HR138_0 := Aside0.mk hi138_0
                   have HC138_0 := Aside0.mk hl138_0
                   clear hi138_0 hl138_0
                   replace p138 := eq_true p138
                   replace q138 := eq_true q138
                   have p139 : 0 ≤ (x21_2 : Int) := of_decide_eq_true (by assumption)
                   have q139 : x21_2 < ((rd_L1 y137 x13_1).length : Int) := of_decide_eq_true (by assumption)
                   obtain ⟨ad139, e139, hx139_0⟩ := Kd.at_int (by repeat (first | (with_reducible exact HR138_0.out) | (with_reducible refine Kd.C_alloc ?_ _) | (with_reducible refine Kd.C_drewN ?_ _) | (with_reducible refine Kd.C_drew ?_) | exact HR138_0.out)) x21_2 p139 q139
                   cases e139
                   replace p139 := eq_true p139
                   replace q139 := eq_true q139
                   have p140 : 0 ≤ ((ji16) : Int) := of_decide_eq_true (by assumption)
                   have q140 : (ji16) < (y137.length : Int) := (by have h_ : ((ji16) : Int) < ((x3_2.length : Int) : Int) := of_decide_eq_true (by assumption); first | (have e_ := (Kd.S_reads' HO_3.out).1; omega) | simpa only [Ny137.out, List.length_set] using h_)
                   have ql140 : (((ji16) : Int) < ((x3_2.length : Int) : Int)) = True := eq_true (of_decide_eq_true (by assumption))
                   obtain ⟨ad140, A140_0, c140_0, e140, hx140_0, hl140_0, hi140_0⟩ := at_L1 (Kd.S_reads' HO_3.out).2.2 (ji16) p140 q140
                   obtain rfl : ad134 = ad140 := (by injection e140)
                   obtain ⟨ce140, hce140, hMe140, hcc140⟩ := Kd.S_get HO_3.out [] (ji16) p140 (by first | exact q140 | exact of_decide_eq_true (by assumption) | (have e_ := (Kd.S_reads' HO_3.out).1; omega))
                   obtain ⟨ve140_0, rfl, ge140_0⟩ := hMe140
                   have hv140_0 := hcc140 0 _ rfl
                   rw [Nat.add_zero, show ((Kd.slice 3 (Kd.int .i64))).sz = 1 from rfl, Nat.mul_one] at hv140_0
                   replace hv140_0 := Option.some.inj (hv140_0.symm.trans hx140_0)
                   rw [hv140_0] at ge140_0
                   have HL140_0 := Aside0.mk (show Kd.R (Kd.int .i64) 3 _ _ _ _ (rd_L1 y137 (ji16)) from ge140_0)
                   clear hv140_0 ge140_0
                   have HX140_0 := Aside0.mk hx140_0
                   clear hcc140 hce140
                   have HR140_0 := Aside0.mk hi140_0
                   have HC140_0 := Aside0.mk hl140_0
                   clear hi140_0 hl140_0
                   replace p140 := eq_true p140
                   replace q140 := eq_true q140
                   have p141 : 0 ≤ (x21_2 : Int) := of_decide_eq_true (by assumption)
                   have q141 : x21_2 < ((rd_L1 y137 (ji16)).length : Int) := of_decide_eq_true (by assumption)
                   obtain ⟨ad141, e141, hx141_0⟩ := Kd.at_int (by repeat (first | (with_reducible exact HR140_0.out) | (with_reducible refine Kd.C_alloc ?_ _) | (with_reducible refine Kd.C_drewN ?_ _) | (with_reducible refine Kd.C_drew ?_) | exact HR140_0.out)) x21_2 p141 q141
                   cases e141
                   replace p141 := eq_true p141
                   replace q141 := eq_true q141
                   have p20 : 0 ≤ (x21_2 : Int) := of_decide_eq_true (by assumption)
                   have q20 : (x21_2 : Int) < (((rd_L1 y137 x13_1).length : Int) : Int) := of_decide_eq_true (by assumption)
                   obtain ⟨go20, co20, eo20, gb20, gl20, cl20, HG20⟩ := Kd.R_form HL138_0.out (by omega)
                   (first | cases eo20 | (injection eo20 with ea_ en_ ec_; (first | subst ea_ | (injection ea_ with ea_; subst ea_)); subst ec_; clear en_))
                   have GB20 := Aside0.mk gb20
                   have GG20 := Aside0.mk HG20
                   clear gb20 gl20 HG20
                   (first | simp only [add_plain] at hx139_0 | skip)
                   obtain ⟨hx20_0, hf20_0⟩ := Kd.R_celln 0 HL138_0.out (x21_2 : Int) p20 q20
                   replace p20 := eq_true p20
                   replace q20 := eq_true q20
                   have hq25 : (x13_1 : Int) < (y137.length : Int) := (by have h_ : (x13_1 : Int) < ((x3_2.length : Int) : Int) := of_decide_eq_true (by assumption); first | exact h_ | (have e_ := (Kd.S_reads' HO_3.out).1; omega) | simpa only [Ny137.out, List.length_set] using h_)
                   obtain ⟨oki25, ce25, hcl25, hM25, hcc25, hok25, hbk25⟩ := Kd.S_borrow HO_3.out [] (x13_1 : Int) (of_decide_eq_true (by assumption)) (by first | exact hq25 | (have e_ := (Kd.S_reads' HO_3.out).1; omega))
                   obtain ⟨ve25_0, rfl, ge25_0⟩ := hM25
                   have hv25 := hcc25 0 _ rfl
                   rw [Nat.add_zero, show ((Kd.slice 3 (Kd.int .i64))).sz = 1 from rfl, Nat.mul_one] at hv25
                   replace hv25 := Option.some.inj (hv25.symm.trans HX138_0.out)
                   subst hv25
                   clear hcc25 hcl25
                   replace ge25_0 := (show Kd.R (Kd.int .i64) 3 _ _ _ _ (rd_L1 y137 x13_1) from ge25_0)
                   have HP25 := Kd.R_putg ge25_0 (x21_2 : Int) (wrap64 ((rd (rd_L1 y137 x13_1) x21_2) + (rd (rd_L1 y137 (ji16)) x21_2)))
                   rw [← Ny142.out] at HP25
                   have HS25 := hbk25 HP25.2 (fun k_ e_ => by injection e_ with e_; subst e_; exact ge25_0.1 _ rfl) (x' := y142) (Kd.M_row HP25.1)
                   rw [← Ny144.out] at HS25
                   have HQ25 := Aside0.mk HS25
                   clear HP25 HS25 hbk25 hok25
                   refine start_ (n := 18) (S := fun w' => w'.cell? (ad134.add (x13_1).toNat) = some (.slice (some ⟨go20, 0, none⟩) (rd_L1 y137 x13_1).length c138_0) ∧ w'.cell? ⟨go20, (x21_2).toNat, none⟩ = some (.int .i64 (rd (rd_L1 y137 x13_1) x21_2)) ∧ w'.cell? (ad134.add ((ji16)).toNat) = some (.slice (some ad141) (rd_L1 y137 (ji16)).length c140_0) ∧ w'.cell? (ad141.add (x21_2).toNat) = some (.int .i64 (rd (rd_L1 y137 (ji16)) x21_2))) (ds := [17]) #[false, false, false, false, false, false, false, false, false, false, false, false, false, false, false, false, false, false] (by kernel_rfl) rfl rfl ⟨hx138_0, hx139_0, hx140_0, hx141_0⟩ (fun hHeld => ?_); refine with_tabW spec_sgCorners.tab12 spec_sgCorners.bits12 (fun HT_ HW_ => ?_)
                   generalize w23.drew = w24 at HO_3 HL145 HB GG20 HL138_0 HL140_0 HQ25 HR138_0 HR140_0 HX138_0 HX140_0 hf20_0 hx138_0 hx139_0 hx140_0 hx141_0 hx20_0 hHeld ⊢
                   refine pure_ (i := 0) (N := some 38) (v := ?_) (a' := ?_) #[true, false, false, false, false, false, false, false, false, false, false, false, false, false, false, false, false, false] rfl rfl (any_of HT_.out (by kernel_rfl)) (fun _ _ _ h => h) (Or.inl ⟨by rfl, ?_⟩) ?_ ?_
                   rotate_left
                   ·intro w'
                    go_simp
                    with_reducible rfl
                   rotate_left
                   ·simp only [Act.put, List.setIfInBounds_toArray, List.set_cons_zero, List.set_cons_succ, i64_w, i32_w]
                    rfl
                   refine pure_ (i := 1) (N := some 39) (v := ?_) (a' := ?_) #[true, true, false, false, false, false, false, false, false, false, false, false, false, false, false, false, false, false] rfl rfl (any_of HT_.out (by kernel_rfl)) (fun _ _ _ h => h) (Or.inl ⟨by rfl, ?_⟩) ?_ ?_
                   rotate_left
                   ·intro w'
                    go_simp
                    with_reducible rfl
                   rotate_left
                   ·simp only [Act.put, List.setIfInBounds_toArray, List.set_cons_zero, List.set_cons_succ, i64_w, i32_w]
                    rfl
                   refine pure_ (i := 2) (N := some 40) (v := ?_) (a' := ?_) #[true, true, true, false, false, false, false, false, false, false, false, false, false, false, false, false, false, false] rfl rfl (any_of HT_.out (by kernel_rfl)) (fun _ _ _ h => h) (Or.inl ⟨by rfl, ?_⟩) ?_ ?_
                   rotate_left
                   ·intro w'
                    go_simp
                    with_reducible rfl
                   rotate_left
                   ·simp only [Act.put, List.setIfInBounds_toArray, List.set_cons_zero, List.set_cons_succ, i64_w, i32_w]
                    rfl
                   refine pure_ (i := 4) (N := some 42) (v := ?_) (a' := ?_) #[true, true, true, false, true, false, false, false, false, false, false, false, false, false, false, false, false, false] rfl rfl (any_of HT_.out (by kernel_rfl)) (fun _ _ _ h => h) (Or.inl ⟨by rfl, ?_⟩) ?_ ?_
                   rotate_left
                   ·intro w'
                    go_simp
                    with_reducible rfl
                   rotate_left
                   ·simp only [Act.put, List.setIfInBounds_toArray, List.set_cons_zero, List.set_cons_succ, i64_w, i32_w]
                    rfl
                   refine pure_ (i := 7) (N := some 45) (v := ?_) (a' := ?_) #[true, true, true, false, true, false, false, true, false, false, false, false, false, false, false, false, false, false] rfl rfl (any_of HT_.out (by kernel_rfl)) (fun _ _ _ h => h) (Or.inl ⟨by rfl, ?_⟩) ?_ ?_
                   rotate_left
                   ·intro w'
                    go_simp
                    with_reducible rfl
                   rotate_left
                   ·simp only [Act.put, List.setIfInBounds_toArray, List.set_cons_zero, List.set_cons_succ, i64_w, i32_w]
                    rfl
                   refine pure_ (i := 8) (N := some 46) (v := ?_) (a' := ?_) #[true, true, true, false, true, false, false, true, true, false, false, false, false, false, false, false, false, false] rfl rfl (any_of HT_.out (by kernel_rfl)) (fun _ _ _ h => h) (Or.inl ⟨by rfl, ?_⟩) ?_ ?_
                   rotate_left
                   ·intro w'
                    go_simp
                    with_reducible rfl
                   rotate_left
                   ·simp only [Act.put, List.setIfInBounds_toArray, List.set_cons_zero, List.set_cons_succ, i64_w, i32_w]
                    rfl
                   refine pure_ (i := 9) (N := some 47) (v := ?_) (a' := ?_) #[true, true, true, false, true, false, false, true, true, true, false, false, false, false, false, false, false, false] rfl rfl (any_of HT_.out (by kernel_rfl)) (fun _ _ _ h => h) (Or.inl ⟨by rfl, ?_⟩) ?_ ?_
                   rotate_left
                   ·intro w'
                    go_simp
                    with_reducible rfl
                   rotate_left
                   ·simp only [Act.put, List.setIfInBounds_toArray, List.set_cons_zero, List.set_cons_succ, i64_w, i32_w]
                    rfl
                   refine pure_ (i := 10) (N := some 48) (v := ?_) (a' := ?_) #[true, true, true, false, true, false, false, true, true, true, true, false, false, false, false, false, false, false] rfl rfl (any_of HT_.out (by kernel_rfl)) (fun _ _ _ h => h) (Or.inl ⟨by rfl, ?_⟩) ?_ ?_
                   rotate_left
                   ·intro w'
                    go_simp
                    with_reducible rfl
                   rotate_left
                   ·simp only [Act.put, List.setIfInBounds_toArray, List.set_cons_zero, List.set_cons_succ, i64_w, i32_w]
                    rfl
                   refine pure_ (i := 12) (N := some 50) (v := ?_) (a' := ?_) #[true, true, true, false, true, false, false, true, true, true, true, false, true, false, false, false, false, false] rfl rfl (any_of HT_.out (by kernel_rfl)) (fun _ _ _ h => h) (Or.inl ⟨by rfl, ?_⟩) ?_ ?_
                   rotate_left
                   ·intro w'
                    go_simp
                    with_reducible rfl
                   rotate_left
                   ·simp only [Act.put, List.setIfInBounds_toArray, List.set_cons_zero, List.set_cons_succ, i64_w, i32_w]
                    rfl
                   refine take_ (i := 3) (N := some 41) (v := ?_) (a' := ?_) #[true, true, true, true, true, false, false, true, true, true, true, false, true, false, false, false, false, false] rfl rfl (take_ofW HT_.out HW_.out (by kernel_rfl)) (fun _ _ _ h => h) (Or.inl ⟨by rfl, ?_⟩) hHeld ?_ ?_
                   rotate_left
                   ·rintro w' ⟨s0, s1, s2, s3⟩
                    go_simp
                    with_reducible rfl
                   rotate_left
                   ·simp only [Act.put, List.setIfInBounds_toArray, List.set_cons_zero, List.set_cons_succ, i64_w, i32_w]
                    rfl
                   refine pure_ (i := 5) (N := some 43) (v := ?_) (a' := ?_) #[true, true, true, true, true, true, false, true, true, true, true, false, true, false, false, false, false, false] rfl rfl (any_of HT_.out (by kernel_rfl)) (fun _ _ _ h => h) (Or.inl ⟨by rfl, ?_⟩) ?_ ?_
                   rotate_left
                   ·intro w'
                    go_simp
                    with_reducible rfl
                   rotate_left
                   ·simp only [Act.put, List.setIfInBounds_toArray, List.set_cons_zero, List.set_cons_succ, i64_w, i32_w]
                    rfl
                   refine take_ (i := 6) (N := some 44) (v := ?_) (a' := ?_) #[true, true, true, true, true, true, true, true, true, true, true, false, true, false, false, false, false, false] rfl rfl (take_ofW HT_.out HW_.out (by kernel_rfl)) (fun _ _ _ h => h) (Or.inl ⟨by rfl, ?_⟩) hHeld ?_ ?_
                   rotate_left
                   ·rintro w' ⟨s0, s1, s2, s3⟩
                    go_simp
                    with_reducible rfl
                   rotate_left
                   ·simp only [Act.put, List.setIfInBounds_toArray, List.set_cons_zero, List.set_cons_succ, i64_w, i32_w]
                    rfl
                   refine take_ (i := 11) (N := some 49) (v := ?_) (a' := ?_) #[true, true, true, true, true, true, true, true, true, true, true, true, true, false, false, false, false, false] rfl rfl (take_ofW HT_.out HW_.out (by kernel_rfl)) (fun _ _ _ h => h) (Or.inl ⟨by rfl, ?_⟩) hHeld ?_ ?_
                   rotate_left
                   ·rintro w' ⟨s0, s1, s2, s3⟩
                    go_simp
                    with_reducible rfl
                   rotate_left
                   ·simp only [Act.put, List.setIfInBounds_toArray, List.set_cons_zero, List.set_cons_succ, i64_w, i32_w]
                    rfl
                   refine pure_ (i := 13) (N := some 51) (v := ?_) (a' := ?_) #[true, true, true, true, true, true, true, true, true, true, true, true, true, true, false, false, false, false] rfl rfl (any_of HT_.out (by kernel_rfl)) (fun _ _ _ h => h) (Or.inl ⟨by rfl, ?_⟩) ?_ ?_
                   rotate_left
                   ·intro w'
                    go_simp
                    with_reducible rfl
                   rotate_left
                   ·simp only [Act.put, List.setIfInBounds_toArray, List.set_cons_zero, List.set_cons_succ, i64_w, i32_w]
                    rfl
                   refine take_ (i := 14) (N := some 52) (v := ?_) (a' := ?_) #[true, true, true, true, true, true, true, true, true, true, true, true, true, true, true, false, false, false] rfl rfl (take_ofW HT_.out HW_.out (by kernel_rfl)) (fun _ _ _ h => h) (Or.inl ⟨by rfl, ?_⟩) hHeld ?_ ?_
                   rotate_left
                   ·rintro w' ⟨s0, s1, s2, s3⟩
                    go_simp
                    with_reducible rfl
                   rotate_left
                   ·simp only [Act.put, List.setIfInBounds_toArray, List.set_cons_zero, List.set_cons_succ, i64_w, i32_w]
                    rfl
                   refine pure_ (i := 15) (N := some 53) (v := ?_) (a' := ?_) #[true, true, true, true, true, true, true, true, true, true, true, true, true, true, true, true, false, false] rfl rfl (any_of HT_.out (by kernel_rfl)) (fun _ _ _ h => h) (Or.inl ⟨by rfl, ?_⟩) ?_ ?_
                   rotate_left
                   ·intro w'
                    go_simp
                    with_reducible rfl
                   rotate_left
                   ·simp only [Act.put, List.setIfInBounds_toArray, List.set_cons_zero, List.set_cons_succ, i64_w, i32_w]
                    rfl
                   refine pure_ (i := 16) (N := some 54) (v := ?_) (a' := ?_) #[true, true, true, true, true, true, true, true, true, true, true, true, true, true, true, true, true, false] rfl rfl (any_of HT_.out (by kernel_rfl)) (fun _ _ _ h => h) (Or.inl ⟨by rfl, ?_⟩) ?_ ?_
                   rotate_left
                   ·intro w'
                    go_simp
                    with_reducible rfl
                   rotate_left
                   ·simp only [Act.put, List.setIfInBounds_toArray, List.set_cons_zero, List.set_cons_succ, i64_w, i32_w]
                    rfl
                   refine last_ (i := 17) (N := none) #[true, true, true, true, true, true, true, true, true, true, true, true, true, true, true, true, true, true] rfl rfl (one_of HT_.out (by kernel_rfl)) (by decide) (fun K hK => ?_)
                   refine skip_ (w1 := ?_) (by rfl) rfl ?_ ?_
                   rotate_left
                   ·go_simp
                    rfl
                   refine hK.out _ _ ?_
                   clear hK K
                   refine done_ (done_of HT_.out (by kernel_rfl)) ?_
                   try go_wp2
                   go_roundg k2
                   case measure => have := HK1.out; have := HK2.out; omega
                   case rel => exact ⟨(y144), (wrap64 (x5_2 + (rd (rd_L1 l0 x13_1) x21_2))), (wrap64 (x21_2 + 1)), (by first | rfl | (simp; done) | (simp [*]; done)), (by first | rfl | (simp; done) | (simp [*]; done)), H', ⟨by have := HK1.out; have := HK2.out; omega⟩, ⟨by (with_reducible repeat (first | apply Kd.S_alloc | apply Kd.S_drewN | apply Kd.S_drew)); exact HQ25.out⟩, ⟨by repeat (first | (with_reducible first | exact HB.out | apply below_alloc | apply pw_below_drewN | apply below_drew1 | refine below_set ?_ GB20.out) | exact HB.out)⟩⟩
                  ·rw [if_neg c19] at H
                   exact absurd H (by simp)
                 ·rw [if_neg c18] at H
                  exact absurd H (by simp)
                ·rw [if_neg c17] at H
                 exact absurd H (by simp)
               ·rw [if_neg c15] at H
                exact absurd H (by simp)
              ·rw [if_neg c14] at H
               have c14b0 : decide (0 < x13_1) = false := decide_eq_false c14
               clear c14
               have H' := Aside0.mk H
               clear H
               have p133 : 0 ≤ (x21_2 : Int) := of_decide_eq_true (by assumption)
               have q133 : x21_2 < ((rd_L1 l0 x13_1).length : Int) := of_decide_eq_true (by assumption)
               obtain ⟨ad133, e133, hx133_0⟩ := Kd.at_int HR132_0.out x21_2 p133 q133
               cases e133
               (try replace hx133_0 := (HB.out.cell (World.block_lt_of_cell? w _ hx133_0)).trans hx133_0)
               replace p133 := eq_true p133
               replace q133 := eq_true q133
               obtain ⟨Ao27, co27, eo27⟩ := Kd.S_slice HO_3.out
               subst eo27
               have p134 : 0 ≤ (x13_1 : Int) := of_decide_eq_true (by assumption)
               have q134 : x13_1 < (x3_2.length : Int) := of_decide_eq_true (by assumption)
               obtain ⟨ad134, A134_0, c134_0, e134, hx134_0, hl134_0, hi134_0⟩ := at_L1 (Kd.S_reads' HO_3.out).2.2 x13_1 p134 q134
               cases e134
               obtain ⟨ce134, hce134, hMe134, hcc134⟩ := Kd.S_get HO_3.out [] x13_1 p134 (by first | exact q134 | exact of_decide_eq_true (by assumption) | (have e_ := (Kd.S_reads' HO_3.out).1; omega))
               obtain ⟨ve134_0, rfl, ge134_0⟩ := hMe134
               have hv134_0 := hcc134 0 _ rfl
               rw [Nat.add_zero, show ((Kd.slice 3 (Kd.int .i64))).sz = 1 from rfl, Nat.mul_one] at hv134_0
               replace hv134_0 := Option.some.inj (hv134_0.symm.trans hx134_0)
               rw [hv134_0] at ge134_0
               have HL134_0 := Aside0.mk (show Kd.R (Kd.int .i64) 3 _ _ _ _ (rd_L1 x3_2 x13_1) from ge134_0)
               clear hv134_0 ge134_0
               have HX134_0 := Aside0.mk hx134_0
               clear hcc134 hce134
               have HR134_0 := Aside0.mk hi134_0
               have HC134_0 := Aside0.mk hl134_0
               clear hi134_0 hl134_0
               replace p134 := eq_true p134
               replace q134 := eq_true q134
               have p13 : 0 ≤ (x21_2 : Int) := of_decide_eq_true (by assumption)
               have q13 : (x21_2 : Int) < (((rd_L1 x3_2 x13_1).length : Int) : Int) := of_decide_eq_true (by assumption)
               obtain ⟨go13, co13, eo13, gb13, gl13, cl13, HG13⟩ := Kd.R_form HL134_0.out (by omega)
               (first | cases eo13 | (injection eo13 with ea_ en_ ec_; (first | subst ea_ | (injection ea_ with ea_; subst ea_)); subst ec_; clear en_))
               have GB13 := Aside0.mk gb13
               have GG13 := Aside0.mk HG13
               clear gb13 gl13 HG13
               obtain ⟨hx13_0, hf13_0⟩ := Kd.R_celln 0 HL134_0.out (x21_2 : Int) p13 q13
               replace p13 := eq_true p13
               replace q13 := eq_true q13
               have hq28 : (x13_1 : Int) < (x3_2.length : Int) := (by have h_ : (x13_1 : Int) < ((x3_2.length : Int) : Int) := of_decide_eq_true (by assumption); first | exact h_ | (have e_ := (Kd.S_reads' HO_3.out).1; omega) | simpa only [List.length_set, List.length_set] using h_)
               obtain ⟨oki28, ce28, hcl28, hM28, hcc28, hok28, hbk28⟩ := Kd.S_borrow HO_3.out [] (x13_1 : Int) (of_decide_eq_true (by assumption)) (by first | exact hq28 | (have e_ := (Kd.S_reads' HO_3.out).1; omega))
               obtain ⟨ve28_0, rfl, ge28_0⟩ := hM28
               have hv28 := hcc28 0 _ rfl
               rw [Nat.add_zero, show ((Kd.slice 3 (Kd.int .i64))).sz = 1 from rfl, Nat.mul_one] at hv28
               replace hv28 := Option.some.inj (hv28.symm.trans HX134_0.out)
               subst hv28
               clear hcc28 hcl28
               replace ge28_0 := (show Kd.R (Kd.int .i64) 3 _ _ _ _ (rd_L1 x3_2 x13_1) from ge28_0)
               have HP28 := Kd.R_putg ge28_0 (x21_2 : Int) (wrap64 (x5_2 + (rd (rd_L1 l0 x13_1) x21_2)))
               go_wp2_with (first | ((with_reducible refine gate_store (t := 3) (p := 35) rfl ?_); refine store_event (t := 3) (p := 35) (v := ?vo_w29) (w1 := (wr.setCell ⟨go13, (x21_2 : Int).toNat, none⟩ (.int .i64 (wrap64 (x5_2 + (rd (rd_L1 l0 x13_1) x21_2)))))) ?hg ?ho ?hn ?hr ?_; (case ho => rfl); (case hg => rfl); (case hn => rfl); (case hr => first | (go_simp; done) | (go_simp; rfl)); intro w29 hw; have hg : wr.grownBy w29 (some go13) := (by rw [hw]; exact HP28.2); have hz_ : Kd.R (Kd.int .i64) 3 w29 w.heap.size oki28 (.slice (some ⟨go13, 0, none⟩) (rd_L1 x3_2 x13_1).length c134_0) y135 := (by rw [hw, Ny135.out]; exact HP28.1); have hp_ : Kd.S (Kd.slice 3 (Kd.int .i64)) 43 w29 w.heap.size (fun _ => True) (.slice (some ad134) x3_2.length co27) y137 := (by rw [Ny137.out]; exact hbk28 hg (fun k_ e_ => by injection e_ with e_; subst e_; exact ge28_0.1 _ rfl) (Kd.M_row hz_)); have hm_ := Kd.R_mono hz_ hok28; clear HP28 hbk28; have n0_ := Aside0.mk (hp_); have n1_ := Aside0.mk ((by rw [hw]; exact below_set (HB.out) GB13.out : Below w.heap.size w w29)); have n2_ := Aside0.mk (hm_); have n3_ := Aside0.mk ((Kd.R_reads' hm_).2.1); clear HO_3; clear HB; clear HL134_0; have HO_3 := n0_; have HB := n1_; have HL146 := n2_; have HC136 := n3_; clear n0_ n1_ n2_ n3_; clear hg hw hp_ hz_ hm_ hok28))
               go_roundg k2
               case measure => have := HK1.out; have := HK2.out; omega
               case rel => exact ⟨(y137), (wrap64 (x5_2 + (rd (rd_L1 l0 x13_1) x21_2))), (wrap64 (x21_2 + 1)), (by first | rfl | (simp; done) | (simp [*]; done)), (by first | rfl | (simp; done) | (simp [*]; done)), H', ⟨by have := HK1.out; have := HK2.out; omega⟩, ⟨by (with_reducible repeat (first | apply Kd.S_alloc | apply Kd.S_drewN | apply Kd.S_drew)); exact HO_3.out⟩, ⟨by repeat (first | (with_reducible first | exact HB.out | apply below_alloc | apply pw_below_drewN | apply below_drew1) | exact HB.out)⟩⟩
             ·rw [if_neg c12] at H
              exact absurd H (by simp)
            ·rw [if_neg c11] at H
             exact absurd H (by simp)
           ·rw [if_neg c10] at H
            exact absurd H (by simp)
          ·rw [if_neg c9] at H
           exact absurd H (by simp)
         ·rw [if_neg c8] at H
          exact absurd H (by simp)
        ·rw [if_neg c7] at H
         have c7b0 : decide (x21_2 < ((rd_L1 l0 x13_1).length : Int)) = false := decide_eq_false c7
         clear c7
         have H' := Aside0.mk H
         clear H
         go_wp2
         go_roundg k2
         case measure => have := HK1.out; have := HK2.out; omega
         case rel => exact ⟨(x3_2), (wrap64 (x13_1 + 1)), (by first | rfl | (simp; done) | (simp [*]; done)), H', ⟨by have := HK1.out; have := HK2.out; omega⟩, ⟨by (with_reducible repeat (first | apply Kd.S_alloc | apply Kd.S_drewN | apply Kd.S_drew)); exact HO_3.out⟩, ⟨by repeat (first | (with_reducible first | exact HB.out | apply below_alloc | apply pw_below_drewN | apply below_drew1) | exact HB.out)⟩⟩
     ·rw [if_neg c6] at H
      exact absurd H (by simp)
    ·rw [if_neg c5] at H
     exact absurd H (by simp)
   ·rw [if_neg c4] at H
    have c4b0 : decide (x13_1 < (l0.length : Int)) = false := decide_eq_false c4
    clear c4
    obtain rfl := Option.some.inj H
    go_wp2
    go_ret
    exact ⟨_, by first | rfl | (simp [errW_none, errW_some] <;> rfl) | (simp [*, errW_none, errW_some] <;> rfl), by (with_reducible repeat (first | apply Kd.S_alloc | apply Kd.S_drewN | apply Kd.S_drew)); exact HO_3.out, by repeat (first | (with_reducible first | exact HB.out | apply below_alloc | apply pw_below_drewN | apply below_drew1) | exact HB.out)⟩

end Go.Proofs.Ytflhhbpgkjpbdaa.P
