/- Texts of one chain, in build order. -/
import Derived.Test.YthlgclfhoeakgaaYBCountOrbitsCountFixedOrbitLengths10
namespace Go.Proofs.Ythlgclfhoeakgaa.P
open Go.RowKit Go.Proofs.YthlgclfhoeakgaaW.PrintWords Go.Proofs.YthlgclfhoeakgaaW.PrintLast Go.Proofs.YthlgclfhoeakgaaW.PrintMore
attribute [local go_sem] max2_int min2_int max_two min_two max_three min_three max_four min_four   -- for this text's walks alone
set_option linter.unusedVariables false
set_option linter.unusedSimpArgs false

mutual
def spec_sgCorners.l0 : Nat → List (List Int) → List (List Int) → Int → Int → Option ((List (List Int)))
 | 0, _, _, _, _ => none
 | k + 1, x0, x3, x12, x13 => if x13 < x12 then (if 0 ≤ x13 then (if x13 < (x0.length : Int) then (spec_sgCorners.l1 k x0 x3 x13 0 x12 x13 (rd_L1 x0 x13) ((rd_L1 x0 x13).length : Int) 0) else (none)) else (none)) else (some x3)
def spec_sgCorners.l1 : Nat → List (List Int) → List (List Int) → Int → Int → Int → Int → List Int → Int → Int → Option ((List (List Int)))
 | 0, _, _, _, _, _, _, _, _, _ => none
 | k + 1, x0, x3, x4, x5, x12, x13, x19, x20, x21 => if x21 < x20 then (if 0 ≤ x21 then (if x21 < (x19.length : Int) then (if 0 ≤ x4 then (if x4 < (x3.length : Int) then (if x21 < ((rd_L1 x3 x4).length : Int) then ((some (x3.set (x4 : Int).toNat ((rd_L1 x3 x4).set (x21 : Int).toNat (wrap64 (x5 + (rd x19 x21)))) : List (List Int))).bind fun y200 => (if x4 > 0 then (if x21 < ((rd_L1 y200 x4).length : Int) then (if 0 ≤ (wrap64 (x4 - 1)) then (if (wrap64 (x4 - 1)) < (x3.length : Int) then (if x21 < ((rd_L1 y200 (wrap64 (x4 - 1))).length : Int) then (spec_sgCorners.l1 k x0 (y200.set (x4 : Int).toNat ((rd_L1 y200 x4).set (x21 : Int).toNat (wrap64 ((rd (rd_L1 y200 x4) x21) + (rd (rd_L1 y200 (wrap64 (x4 - 1))) x21))))) x4 (wrap64 (x5 + (rd x19 x21))) x12 x13 x19 x20 (wrap64 (x21 + 1))) else (none)) else (none)) else (none)) else (none)) else (spec_sgCorners.l1 k x0 y200 x4 (wrap64 (x5 + (rd x19 x21))) x12 x13 x19 x20 (wrap64 (x21 + 1))))) else (none)) else (none)) else (none)) else (none)) else (none)) else (spec_sgCorners.l0 k x0 x3 x12 (wrap64 (x13 + 1)))
end
def spec_sgCorners.f (k : Nat) (l0 : List (List Int)) : Option ((List (List Int))) := (spec_sgZero.f k (l0.length : Int)).bind fun t192 => (spec_sgCorners.l0 k l0 t192 (l0.length : Int) 0)
def spec_sgCorners.T12 : Bool × List (List Nat × List Nat) := (true, [([], []), ([], []), ([0, 1], [0, 1]), ([2], [2]), ([], []), ([3, 4], [3, 4]), ([5], [5]), ([], []), ([], []), ([8], [8]), ([7, 9], [7, 9]), ([10], [10]), ([], []), ([11, 12], [11, 12]), ([13], [13]), ([6, 14], [6, 14]), ([3, 4, 0, 1, 2, 3, 4, 5, 6, 7, 8, 9, 10, 11, 12, 13, 14, 15], [3, 4]), ([16, 15, 0, 1, 2, 3, 4, 5, 6, 7, 8, 9, 10, 11, 12, 13, 14, 15], [15, 16])])
def spec_sgCorners.B12 : List Nat := [0, 0, 3, 7, 0, 31, 63, 0, 0, 256, 896, 1920, 0, 8064, 16256, 32767, 65535, 131071]
theorem spec_sgCorners.tab12 : rtab .any (opsOf Try.f99 12) = spec_sgCorners.T12 := by kernel_rfl
theorem spec_sgCorners.bits12 : waitsOk spec_sgCorners.T12.2 spec_sgCorners.B12 = true := by kernel_rfl
set_option maxHeartbeats 8000000 in
set_option maxRecDepth 100000 in
theorem spec_sgCorners.calls (k : Nat) (A0 : Option Addr) (c0 : Nat) (l0 : List (List Int)) (r : List (List Int)) (w : World) (hr0 : Kd.C (Kd.slice 3 (Kd.int .i64)) w A0 l0.length l0) (hc0 : l0.length ≤ c0) (h : spec_sgCorners.f k l0 = some r) :
  Calls Try.prog 99 #[.slice A0 l0.length c0] w fun e w' => ∃ v0_ : Value, e = .returned (v0_) ∧ Kd.S (Kd.slice 3 (Kd.int .i64)) 34 w' w.heap.size (fun _ => True) v0_ r ∧ Below w.heap.size w w' := by
 have HR0 := Aside0.mk hr0
 have HC0 := Aside0.mk hc0
 clear hr0 hc0
 have HB := Aside0.mk (Below.refl w.heap.size w)
 have H : ((spec_sgZero.f k (l0.length : Int)).bind fun t192 => (spec_sgCorners.l0 k l0 t192 (l0.length : Int) 0)) = some r := h
 clear h
 replace H := Option.bind_eq_some_iff.mp H
 obtain ⟨t192, A20, H⟩ := H
 replace H : (spec_sgCorners.l0 k l0 t192 (l0.length : Int) 0) = some r := H
 have A2 := Aside0.mk A20
 clear A20
 have H' := Aside0.mk H
 clear H
 go_enter Try.func99, Try.ntmps99
 go_wp2_with (first | ((with_reducible refine gate_callee (f := 96) rfl ?_); refine goesL_ (some 10) rfl rfl Try.func96 (by kernel_rfl) rfl #[.int .i64 (l0.length : Int)] rfl (by (try simp only [List.map_toArray, List.map_cons, List.map_nil]); first | done | rfl | (simp only [List.length_drop, List.length_take]; rfl)) ?_; (with_reducible refine (spec_sgZero.calls k (l0.length : Int) t192 _ A2.out).mono ?_); rintro e w3 ⟨v193, rfl, ho0, hb⟩; refine ⟨_, rfl, ?_⟩; have n0_ := Aside0.mk (Kd.S_lower ho0 (below_size (by repeat (first | (with_reducible first | exact HB.out | apply below_alloc | apply pw_below_drewN | apply below_drew1) | exact HB.out)))); have n1_ := Aside0.mk (below_step (by repeat (first | (with_reducible first | exact HB.out | apply below_alloc | apply pw_below_drewN | apply below_drew1) | exact HB.out)) hb); clear HB; have HO194 := n0_; have HB := n1_; clear n0_ n1_; (try clear hb); (try clear hb2); (try clear hk); (try clear hi); (try clear ho0)))
 go_loopg [13] k (fun kq v13 w' => ∃ (x3_1 : List (List Int)) (x13_1 : Int), v13 = .int .i64 x13_1 ∧ Aside0 (spec_sgCorners.l0 kq l0 x3_1 (l0.length : Int) x13_1 = some r) ∧ Aside0 (kq ≤ k) ∧ Aside0 (Kd.S (Kd.slice 3 (Kd.int .i64)) 34 w' w.heap.size (fun _ => True) v193 x3_1) ∧ Aside0 (Below w.heap.size w w'))
 case atStart => exact ⟨(t192), (0), (by first | rfl | (simp; done) | (simp [*]; done)), H', ⟨Nat.le_refl _⟩, ⟨by (with_reducible repeat (first | apply Kd.S_alloc | apply Kd.S_drewN | apply Kd.S_drew)); exact HO194.out⟩, ⟨by repeat (first | (with_reducible first | exact HB.out | apply below_alloc | apply pw_below_drewN | apply below_drew1) | exact HB.out)⟩⟩
 case round =>
  clear H'
  try clear p2
  obtain ⟨x3_1, x13_1, rfl, HA, HK1, HO_3, HB⟩ := hrel
  cases gk with
  | zero => exact absurd HA.out (by simp [spec_sgCorners.l0])
  | succ k1 =>
   have H := HA.out
   clear HA
   simp only [spec_sgCorners.l0] at H
   by_cases c4 : x13_1 < (l0.length : Int)
   ·rw [if_pos c4] at H
    have c4b0 : decide (x13_1 < (l0.length : Int)) = true := decide_eq_true c4
    clear c4
    by_cases c5 : 0 ≤ x13_1
    ·rw [if_pos c5] at H
     have c5b0 : decide (0 ≤ x13_1) = true := decide_eq_true c5
     clear c5
     by_cases c6 : x13_1 < (l0.length : Int)
     ·rw [if_pos c6] at H
      have c6b0 : decide (x13_1 < (l0.length : Int)) = true := decide_eq_true c6
      clear c6
      have H' := Aside0.mk H
      clear H
      have p195 : 0 ≤ (x13_1 : Int) := of_decide_eq_true (by first | (with_reducible assumption) | assumption)
      have q195 : x13_1 < (l0.length : Int) := of_decide_eq_true (by first | (with_reducible assumption) | assumption)
      obtain ⟨ad195, A195_0, c195_0, e195, hx195_0, hl195_0, hi195_0⟩ := at_L1 HR0.out x13_1 p195 q195
      cases e195
      (try replace hx195_0 := (HB.out.cell (World.block_lt_of_cell? w _ hx195_0)).trans hx195_0)
      have HR195_0 := Aside0.mk hi195_0
      have HC195_0 := Aside0.mk hl195_0
      clear hi195_0 hl195_0
      replace p195 := eq_true p195
      replace q195 := eq_true q195
      go_wp2
      go_loopg [5, 21] k1 (fun kq v5 v21 w' => ∃ (x3_2 : List (List Int)) (x5_2 : Int) (x21_2 : Int), v5 = .int .i64 x5_2 ∧ v21 = .int .i64 x21_2 ∧ Aside0 (spec_sgCorners.l1 kq l0 x3_2 x13_1 x5_2 (l0.length : Int) x13_1 (rd_L1 l0 x13_1) ((rd_L1 l0 x13_1).length : Int) x21_2 = some r) ∧ Aside0 (kq ≤ k1) ∧ Aside0 (Kd.S (Kd.slice 3 (Kd.int .i64)) 34 w' w.heap.size (fun _ => True) v193 x3_2) ∧ Aside0 (Below w.heap.size w w'))
      case atStart => exact ⟨(x3_1), (0), (0), (by first | rfl | (simp; done) | (simp [*]; done)), (by first | rfl | (simp; done) | (simp [*]; done)), H', ⟨Nat.le_refl _⟩, ⟨by (with_reducible repeat (first | apply Kd.S_alloc | apply Kd.S_drewN | apply Kd.S_drew)); exact HO_3.out⟩, ⟨by repeat (first | (with_reducible first | exact HB.out | apply below_alloc | apply pw_below_drewN | apply below_drew1) | exact HB.out)⟩⟩
      case round =>
       clear H'
       try clear c1
       try clear p1
       try clear q1
       try clear hx1
       try clear p2
       try clear c4
       try clear c4b0
       try clear c5
       try clear c5b0
       try clear c6
       try clear c6b0
       try clear hx195_0
       try clear p195
       try clear p2
       try clear q195
       obtain ⟨x3_2, x5_2, x21_2, rfl, rfl, HA, HK2, HO_3, HB⟩ := hrel
       cases gk with
       | zero => exact absurd HA.out (by simp [spec_sgCorners.l1])
       | succ k2 =>
        have H := HA.out
        clear HA
        simp only [spec_sgCorners.l1] at H
        by_cases c7 : x21_2 < ((rd_L1 l0 x13_1).length : Int)
        ·rw [if_pos c7] at H
         have c7b0 : decide (x21_2 < ((rd_L1 l0 x13_1).length : Int)) = true := decide_eq_true c7
         clear c7
         by_cases c8 : 0 ≤ x21_2
         ·rw [if_pos c8] at H
          have c8b0 : decide (0 ≤ x21_2) = true := decide_eq_true c8
          clear c8
          by_cases c9 : x21_2 < ((rd_L1 l0 x13_1).length : Int)
          ·rw [if_pos c9] at H
           have c9b0 : decide (x21_2 < ((rd_L1 l0 x13_1).length : Int)) = true := decide_eq_true c9
           clear c9
           by_cases c10 : 0 ≤ x13_1
           ·rw [if_pos c10] at H
            have c10b0 : decide (0 ≤ x13_1) = true := decide_eq_true c10
            clear c10
            by_cases c11 : x13_1 < (x3_2.length : Int)
            ·rw [if_pos c11] at H
             have c11b0 : decide (x13_1 < (x3_2.length : Int)) = true := decide_eq_true c11
             clear c11
             by_cases c12 : x21_2 < ((rd_L1 x3_2 x13_1).length : Int)
             ·rw [if_pos c12] at H
              have c12b0 : decide (x21_2 < ((rd_L1 x3_2 x13_1).length : Int)) = true := decide_eq_true c12
              clear c12
              obtain ⟨y198, hy198⟩ : ∃ y_ : List Int, y_ = ((rd_L1 x3_2 x13_1).set (x21_2 : Int).toNat (wrap64 (x5_2 + (rd (rd_L1 l0 x13_1) x21_2)))) := ⟨_, rfl⟩
              replace H : ((some (x3_2.set (x13_1 : Int).toNat y198 : List (List Int))).bind fun y200 => (if x13_1 > 0 then (if x21_2 < ((rd_L1 y200 x13_1).length : Int) then (if 0 ≤ (wrap64 (x13_1 - 1)) then (if (wrap64 (x13_1 - 1)) < (x3_2.length : Int) then (if x21_2 < ((rd_L1 y200 (wrap64 (x13_1 - 1))).length : Int) then (spec_sgCorners.l1 k2 l0 (y200.set (x13_1 : Int).toNat ((rd_L1 y200 x13_1).set (x21_2 : Int).toNat (wrap64 ((rd (rd_L1 y200 x13_1) x21_2) + (rd (rd_L1 y200 (wrap64 (x13_1 - 1))) x21_2))))) x13_1 (wrap64 (x5_2 + (rd (rd_L1 l0 x13_1) x21_2))) (l0.length : Int) x13_1 (rd_L1 l0 x13_1) ((rd_L1 l0 x13_1).length : Int) (wrap64 (x21_2 + 1))) else (none)) else (none)) else (none)) else (none)) else (spec_sgCorners.l1 k2 l0 y200 x13_1 (wrap64 (x5_2 + (rd (rd_L1 l0 x13_1) x21_2))) (l0.length : Int) x13_1 (rd_L1 l0 x13_1) ((rd_L1 l0 x13_1).length : Int) (wrap64 (x21_2 + 1))))) = some r := by first | (rw [hy198]; with_reducible exact H) | (have H2_ := (Option.bind_some _ _).symm.trans H; rw [hy198]; with_reducible exact H2_) | (have H2_ := (Option.bind_some _ _).symm.trans H; with_reducible exact H2_) | with_reducible exact H | (rw [hy198]; exact H) | exact H
              have Ny198 := Aside0.mk hy198
              clear hy198
              obtain ⟨y200, hy200⟩ : ∃ y_ : List (List Int), y_ = (x3_2.set (x13_1 : Int).toNat y198) := ⟨_, rfl⟩
              replace H : (if x13_1 > 0 then (if x21_2 < ((rd_L1 y200 x13_1).length : Int) then (if 0 ≤ (wrap64 (x13_1 - 1)) then (if (wrap64 (x13_1 - 1)) < (x3_2.length : Int) then (if x21_2 < ((rd_L1 y200 (wrap64 (x13_1 - 1))).length : Int) then (spec_sgCorners.l1 k2 l0 (y200.set (x13_1 : Int).toNat ((rd_L1 y200 x13_1).set (x21_2 : Int).toNat (wrap64 ((rd (rd_L1 y200 x13_1) x21_2) + (rd (rd_L1 y200 (wrap64 (x13_1 - 1))) x21_2))))) x13_1 (wrap64 (x5_2 + (rd (rd_L1 l0 x13_1) x21_2))) (l0.length : Int) x13_1 (rd_L1 l0 x13_1) ((rd_L1 l0 x13_1).length : Int) (wrap64 (x21_2 + 1))) else (none)) else (none)) else (none)) else (none)) else (spec_sgCorners.l1 k2 l0 y200 x13_1 (wrap64 (x5_2 + (rd (rd_L1 l0 x13_1) x21_2))) (l0.length : Int) x13_1 (rd_L1 l0 x13_1) ((rd_L1 l0 x13_1).length : Int) (wrap64 (x21_2 + 1)))) = some r := by first | (rw [hy200]; with_reducible exact H) | (have H2_ := (Option.bind_some _ _).symm.trans H; rw [hy200]; with_reducible exact H2_) | (have H2_ := (Option.bind_some _ _).symm.trans H; with_reducible exact H2_) | with_reducible exact H | (rw [hy200]; exact H) | exact H
              have Ny200 := Aside0.mk hy200
              clear hy200
              by_cases c14 : x13_1 > 0
              ·rw [if_pos c14] at H
               have c14b0 : decide (0 < x13_1) = true := decide_eq_true c14
               clear c14
               by_cases c15 : x21_2 < ((rd_L1 y200 x13_1).length : Int)
               ·rw [if_pos c15] at H
                have c15b0 : decide (x21_2 < ((rd_L1 y200 x13_1).length : Int)) = true := decide_eq_true c15
                clear c15
                obtain ⟨ji16, hji16⟩ : ∃ j_ : Int, (wrap64 (x13_1 - 1)) = j_ := ⟨_, rfl⟩
                replace H : (if 0 ≤ (ji16) then (if (ji16) < (x3_2.length : Int) then (if x21_2 < ((rd_L1 y200 (ji16)).length : Int) then (spec_sgCorners.l1 k2 l0 (y200.set (x13_1 : Int).toNat ((rd_L1 y200 x13_1).set (x21_2 : Int).toNat (wrap64 ((rd (rd_L1 y200 x13_1) x21_2) + (rd (rd_L1 y200 (ji16)) x21_2))))) x13_1 (wrap64 (x5_2 + (rd (rd_L1 l0 x13_1) x21_2))) (l0.length : Int) x13_1 (rd_L1 l0 x13_1) ((rd_L1 l0 x13_1).length : Int) (wrap64 (x21_2 + 1))) else (none)) else (none)) else (none)) = some r := by first | (rw [hji16] at H; exact H) | (simp only [hji16] at H ⊢; exact H)
                have hji16w : (IntKind.i64.wrap (x13_1 - 1)) = ji16 := (i64_w _).trans hji16
                by_cases c17 : 0 ≤ (ji16)
                ·rw [if_pos c17] at H
                 have c17b0 : decide (0 ≤ (ji16)) = true := decide_eq_true c17
                 clear c17
                 by_cases c18 : (ji16) < (x3_2.length : Int)
                 ·rw [if_pos c18] at H
                  have c18b0 : decide ((ji16) < (x3_2.length : Int)) = true := decide_eq_true c18
                  clear c18
                  by_cases c19 : x21_2 < ((rd_L1 y200 (ji16)).length : Int)
                  ·rw [if_pos c19] at H
                   have c19b0 : decide (x21_2 < ((rd_L1 y200 (ji16)).length : Int)) = true := decide_eq_true c19
                   clear c19
                   obtain ⟨y205, hy205⟩ : ∃ y_ : List Int, y_ = ((rd_L1 y200 x13_1).set (x21_2 : Int).toNat (wrap64 ((rd (rd_L1 y200 x13_1) x21_2) + (rd (rd_L1 y200 (ji16)) x21_2)))) := ⟨_, rfl⟩
                   replace H : (spec_sgCorners.l1 k2 l0 (y200.set (x13_1 : Int).toNat y205) x13_1 (wrap64 (x5_2 + (rd (rd_L1 l0 x13_1) x21_2))) (l0.length : Int) x13_1 (rd_L1 l0 x13_1) ((rd_L1 l0 x13_1).length : Int) (wrap64 (x21_2 + 1))) = some r := by first | (rw [hy205]; with_reducible exact H) | (have H2_ := (Option.bind_some _ _).symm.trans H; rw [hy205]; with_reducible exact H2_) | (have H2_ := (Option.bind_some _ _).symm.trans H; with_reducible exact H2_) | with_reducible exact H | (rw [hy205]; exact H) | exact H
                   have Ny205 := Aside0.mk hy205
                   clear hy205
                   obtain ⟨y207, hy207⟩ : ∃ y_ : List (List Int), y_ = (y200.set (x13_1 : Int).toNat y205) := ⟨_, rfl⟩
                   replace H : (spec_sgCorners.l1 k2 l0 y207 x13_1 (wrap64 (x5_2 + (rd (rd_L1 l0 x13_1) x21_2))) (l0.length : Int) x13_1 (rd_L1 l0 x13_1) ((rd_L1 l0 x13_1).length : Int) (wrap64 (x21_2 + 1))) = some r := by first | (rw [hy207]; with_reducible exact H) | (have H2_ := (Option.bind_some _ _).symm.trans H; rw [hy207]; with_reducible exact H2_) | (have H2_ := (Option.bind_some _ _).symm.trans H; with_reducible exact H2_) | with_reducible exact H | (rw [hy207]; exact H) | exact H
                   have Ny207 := Aside0.mk hy207
                   clear hy207
                   have H' := Aside0.mk H
                   clear H
                   have p196 : 0 ≤ (x21_2 : Int) := of_decide_eq_true (by first | (with_reducible assumption) | assumption)
                   have q196 : x21_2 < ((rd_L1 l0 x13_1).length : Int) := of_decide_eq_true (by first | (with_reducible assumption) | assumption)
                   obtain ⟨ad196, e196, hx196_0⟩ := Kd.at_int HR195_0.out x21_2 p196 q196
                   cases e196
                   (try replace hx196_0 := (HB.out.cell (World.block_lt_of_cell? w _ hx196_0)).trans hx196_0)
                   replace p196 := eq_true p196
                   replace q196 := eq_true q196
                   obtain ⟨Ao21, co21, eo21⟩ := Kd.S_slice HO_3.out
                   subst eo21
                   have p197 : 0 ≤ (x13_1 : Int) := of_decide_eq_true (by first | (with_reducible assumption) | assumption)
                   have q197 : x13_1 < (x3_2.length : Int) := of_decide_eq_true (by first | (with_reducible assumption) | assumption)
                   obtain ⟨ad197, A197_0, c197_0, e197, hx197_0, hl197_0, hi197_0⟩ := at_L1 (Kd.S_reads' HO_3.out).2.2 x13_1 p197 q197
                   cases e197
                   obtain ⟨ce197, hce197, hMe197, hcc197⟩ := Kd.S_get HO_3.out [] x13_1 p197 (by first | exact q197 | exact of_decide_eq_true (by first | (with_reducible assumption) | assumption) | (have e_ := (Kd.S_reads' HO_3.out).1; omega))
                   obtain ⟨ve197_0, rfl, ge197_0⟩ := hMe197
                   have hv197_0 := hcc197 0 _ rfl
                   rw [Nat.add_zero, show ((Kd.slice 3 (Kd.int .i64))).sz = 1 from rfl, Nat.mul_one] at hv197_0
                   replace hv197_0 := Option.some.inj (hv197_0.symm.trans hx197_0)
                   rw [hv197_0] at ge197_0
                   have HL197_0 := Aside0.mk (show Kd.R (Kd.int .i64) 3 _ _ _ _ (rd_L1 x3_2 x13_1) from ge197_0)
                   clear hv197_0 ge197_0
                   have HX197_0 := Aside0.mk hx197_0
                   clear hcc197 hce197
                   have HR197_0 := Aside0.mk hi197_0
                   have HC197_0 := Aside0.mk hl197_0
                   clear hi197_0 hl197_0
                   replace p197 := eq_true p197
                   replace q197 := eq_true q197
                   have p13 : 0 ≤ (x21_2 : Int) := of_decide_eq_true (by first | (with_reducible assumption) | assumption)
                   have q13 : (x21_2 : Int) < (((rd_L1 x3_2 x13_1).length : Int) : Int) := of_decide_eq_true (by first | (with_reducible assumption) | assumption)
                   obtain ⟨go13, co13, eo13, gb13, gl13, cl13, HG13⟩ := Kd.R_form HL197_0.out (by omega)
                   (first | cases eo13 | (injection eo13 with ea_ en_ ec_; (first | subst ea_ | (injection ea_ with ea_; subst ea_)); subst ec_; clear en_))
                   have GB13 := Aside0.mk gb13
                   have GG13 := Aside0.mk HG13
                   clear gb13 gl13 HG13
                   obtain ⟨hx13_0, hf13_0⟩ := Kd.R_celln 0 HL197_0.out (x21_2 : Int) p13 q13
                   replace p13 := eq_true p13
                   replace q13 := eq_true q13
                   have hq22 : (x13_1 : Int) < (x3_2.length : Int) := (by have h_ : (x13_1 : Int) < ((x3_2.length : Int) : Int) := of_decide_eq_true (by first | (with_reducible assumption) | assumption); first | exact h_ | (have e_ := (Kd.S_reads' HO_3.out).1; omega) | simpa only [List.length_set, List.length_set] using h_)
                   obtain ⟨oki22, ce22, hcl22, hM22, hcc22, hok22, hbk22⟩ := Kd.S_borrow HO_3.out [] (x13_1 : Int) (of_decide_eq_true (by first | (with_reducible assumption) | assumption)) (by first | exact hq22 | (have e_ := (Kd.S_reads' HO_3.out).1; omega))
                   obtain ⟨ve22_0, rfl, ge22_0⟩ := hM22
                   have hv22 := hcc22 0 _ rfl
                   rw [Nat.add_zero, show ((Kd.slice 3 (Kd.int .i64))).sz = 1 from rfl, Nat.mul_one] at hv22
                   replace hv22 := Option.some.inj (hv22.symm.trans HX197_0.out)
                   subst hv22
                   clear hcc22 hcl22
                   replace ge22_0 := (show Kd.R (Kd.int .i64) 3 _ _ _ _ (rd_L1 x3_2 x13_1) from ge22_0)
                   have HP22 := Kd.R_putg ge22_0 (x21_2 : Int) (wrap64 (x5_2 + (rd (rd_L1 l0 x13_1) x21_2)))
                   try go_wp2_with (first | ((with_reducible refine gate_store (t := 3) (p := 35) rfl ?_); refine store_event (t := 3) (p := 35) (v := ?vo_w23) (w1 := (wr.setCell ⟨go13, (x21_2 : Int).toNat, none⟩ (.int .i64 (wrap64 (x5_2 + (rd (rd_L1 l0 x13_1) x21_2)))))) ?hg ?ho ?hn ?hr ?_; (case ho => rfl); (case hg => rfl); (case hn => rfl); (case hr => first | (go_simp; done) | (go_simp; rfl)); intro w23 hw; have hg : wr.grownBy w23 (some go13) := (by rw [hw]; exact HP22.2); have hz_ : Kd.R (Kd.int .i64) 3 w23 w.heap.size oki22 (.slice (some ⟨go13, 0, none⟩) (rd_L1 x3_2 x13_1).length c197_0) y198 := (by rw [hw, Ny198.out]; exact HP22.1); have hp_ : Kd.S (Kd.slice 3 (Kd.int .i64)) 34 w23 w.heap.size (fun _ => True) (.slice (some ad197) x3_2.length co21) y200 := (by rw [Ny200.out]; exact hbk22 hg (fun k_ e_ => by injection e_ with e_; subst e_; exact ge22_0.1 _ rfl) (Kd.M_row hz_)); have hm_ := Kd.R_mono hz_ hok22; clear HP22 hbk22; have n0_ := Aside0.mk (hp_); have n1_ := Aside0.mk ((by rw [hw]; exact below_set (HB.out) GB13.out : Below w.heap.size w w23)); have n2_ := Aside0.mk (hm_); have n3_ := Aside0.mk ((Kd.R_reads' hm_).2.1); clear HO_3; clear HB; clear HL197_0; have HO_3 := n0_; have HB := n1_; have HL208 := n2_; have HC199 := n3_; clear n0_ n1_ n2_ n3_; clear hg hw hp_ hz_ hm_ hok22))
                   have n0_ := Aside0.mk (Kd.S_drew HO_3.out)
                   have n1_ := Aside0.mk (Kd.R_drew HL208.out)
                   have n2_ := Aside0.mk (below_drew1 HB.out)
                   clear HO_3
                   clear HL208
                   clear HB
                   have HO_3 := n0_
                   have HL208 := n1_
                   have HB := n2_
                   clear n0_ n1_ n2_
                   have p201 : 0 ≤ (x13_1 : Int) := of_decide_eq_true (by first | (with_reducible assumption) | assumption)
                   have q201 : x13_1 < (y200.length : Int) := (by have h_ : (x13_1 : Int) < ((x3_2.length : Int) : Int) := of_decide_eq_true (by first | (with_reducible assumption) | assumption); first | (have e_ := (Kd.S_reads' HO_3.out).1; omega) | simpa only [Ny200.out, List.length_set] using h_)
                   have ql201 : ((x13_1 : Int) < ((x3_2.length : Int) : Int)) = True := eq_true (of_decide_eq_true (by first | (with_reducible assumption) | assumption))
                   obtain ⟨ad201, A201_0, c201_0, e201, hx201_0, hl201_0, hi201_0⟩ := at_L1 (Kd.S_reads' HO_3.out).2.2 x13_1 p201 q201
                   obtain rfl : ad197 = ad201 := (by injection e201)
                   obtain ⟨ce201, hce201, hMe201, hcc201⟩ := Kd.S_get HO_3.out [] x13_1 p201 (by first | exact q201 | exact of_decide_eq_true (by first | (with_reducible assumption) | assumption) | (have e_ := (Kd.S_reads' HO_3.out).1; omega))
                   obtain ⟨ve201_0, rfl, ge201_0⟩ := hMe201
                   have hv201_0 := hcc201 0 _ rfl
                   rw [Nat.add_zero, show ((Kd.slice 3 (Kd.int .i64))).sz = 1 from rfl, Nat.mul_one] at hv201_0
                   replace hv201_0 := Option.some.inj (hv201_0.symm.trans hx201_0)
                   rw [hv201_0] at ge201_0
                   have HL201_0 := Aside0.mk (show Kd.R (Kd.int .i64) 3 _ _ _ _ (rd_L1 y200 x13_1) from ge201_0)
                   clear hv201_0 ge201_0
                   have HX201_0 := Aside0.mk hx201_0
                   clear hcc201 hce201
                   have HR201_0 := Aside0.mk hi201_0
                   have HC201_0 := Aside0.mk hl201_0
                   clear hi201_0 hl201_0
                   replace p201 := eq_true p201
                   replace q201 := eq_true q201
                   have p202 : 0 ≤ (x21_2 : Int) := of_decide_eq_true (by first | (with_reducible assumption) | assumption)
                   have q202 : x21_2 < ((rd_L1 y200 x13_1).length : Int) := of_decide_eq_true (by first | (with_reducible assumption) | assumption)
                   obtain ⟨ad202, e202, hx202_0⟩ := Kd.at_int (by repeat (first | (with_reducible exact HR201_0.out) | (with_reducible refine Kd.C_alloc ?_ _) | (with_reducible refine Kd.C_drewN ?_ _) | (with_reducible refine Kd.C_drew ?_) | exact HR201_0.out)) x21_2 p202 q202
                   cases e202
                   replace p202 := eq_true p202
                   replace q202 := eq_true q202
                   have p203 : 0 ≤ ((ji16) : Int) := of_decide_eq_true (by first | (with_reducible assumption) | assumption)
                   have q203 : (ji16) < (y200.length : Int) := (by have h_ : ((ji16) : Int) < ((x3_2.length : Int) : Int) := of_decide_eq_true (by first | (with_reducible assumption) | assumption); first | (have e_ := (Kd.S_reads' HO_3.out).1; omega) | simpa only [Ny200.out, List.length_set] using h_)
                   have ql203 : (((ji16) : Int) < ((x3_2.length : Int) : Int)) = True := eq_true (of_decide_eq_true (by first | (with_reducible assumption) | assumption))
                   obtain ⟨ad203, A203_0, c203_0, e203, hx203_0, hl203_0, hi203_0⟩ := at_L1 (Kd.S_reads' HO_3.out).2.2 (ji16) p203 q203
                   obtain rfl : ad197 = ad203 := (by injection e203)
                   obtain ⟨ce203, hce203, hMe203, hcc203⟩ := Kd.S_get HO_3.out [] (ji16) p203 (by first | exact q203 | exact of_decide_eq_true (by first | (with_reducible assumption) | assumption) | (have e_ := (Kd.S_reads' HO_3.out).1; omega))
                   obtain ⟨ve203_0, rfl, ge203_0⟩ := hMe203
                   have hv203_0 := hcc203 0 _ rfl
                   rw [Nat.add_zero, show ((Kd.slice 3 (Kd.int .i64))).sz = 1 from rfl, Nat.mul_one] at hv203_0
                   replace hv203_0 := Option.some.inj (hv203_0.symm.trans hx203_0)
                   rw [hv203_0] at ge203_0
                   have HL203_0 := Aside0.mk (show Kd.R (Kd.int .i64) 3 _ _ _ _ (rd_L1 y200 (ji16)) from ge203_0)
                   clear hv203_0 ge203_0
                   have HX203_0 := Aside0.mk hx203_0
                   clear hcc203 hce203
                   have HR203_0 := Aside0.mk hi203_0
                   have HC203_0 := Aside0.mk hl203_0
                   clear hi203_0 hl203_0
                   replace p203 := eq_true p203
                   replace q203 := eq_true q203
                   have p204 : 0 ≤ (x21_2 : Int) := of_decide_eq_true (by first | (with_reducible assumption) | assumption)
                   have q204 : x21_2 < ((rd_L1 y200 (ji16)).length : Int) := of_decide_eq_true (by first | (with_reducible assumption) | assumption)
                   obtain ⟨ad204, e204, hx204_0⟩ := Kd.at_int (by repeat (first | (with_reducible exact HR203_0.out) | (with_reducible refine Kd.C_alloc ?_ _) | (with_reducible refine Kd.C_drewN ?_ _) | (with_reducible refine Kd.C_drew ?_) | exact HR203_0.out)) x21_2 p204 q204
                   cases e204
                   replace p204 := eq_true p204
                   replace q204 := eq_true q204
                   have p20 : 0 ≤ (x21_2 : Int) := of_decide_eq_true (by first | (with_reducible assumption) | assumption)
                   have q20 : (x21_2 : Int) < (((rd_L1 y200 x13_1).length : Int) : Int) := of_decide_eq_true (by first | (with_reducible assumption) | assumption)
                   obtain ⟨go20, co20, eo20, gb20, gl20, cl20, HG20⟩ := Kd.R_form HL201_0.out (by omega)
                   (first | cases eo20 | (injection eo20 with ea_ en_ ec_; (first | subst ea_ | (injection ea_ with ea_; subst ea_)); subst ec_; clear en_))
                   have GB20 := Aside0.mk gb20
                   have GG20 := Aside0.mk HG20
                   clear gb20 gl20 HG20
                   (first | simp only [add_plain] at hx202_0 | skip)
                   obtain ⟨hx20_0, hf20_0⟩ := Kd.R_celln 0 HL201_0.out (x21_2 : Int) p20 q20
                   replace p20 := eq_true p20
                   replace q20 := eq_true q20
                   have hq25 : (x13_1 : Int) < (y200.length : Int) := (by have h_ : (x13_1 : Int) < ((x3_2.length : Int) : Int) := of_decide_eq_true (by first | (with_reducible assumption) | assumption); first | exact h_ | (have e_ := (Kd.S_reads' HO_3.out).1; omega) | simpa only [Ny200.out, List.length_set] using h_)
                   obtain ⟨oki25, ce25, hcl25, hM25, hcc25, hok25, hbk25⟩ := Kd.S_borrow HO_3.out [] (x13_1 : Int) (of_decide_eq_true (by first | (with_reducible assumption) | assumption)) (by first | exact hq25 | (have e_ := (Kd.S_reads' HO_3.out).1; omega))
                   obtain ⟨ve25_0, rfl, ge25_0⟩ := hM25
                   have hv25 := hcc25 0 _ rfl
                   rw [Nat.add_zero, show ((Kd.slice 3 (Kd.int .i64))).sz = 1 from rfl, Nat.mul_one] at hv25
                   replace hv25 := Option.some.inj (hv25.symm.trans HX201_0.out)
                   subst hv25
                   clear hcc25 hcl25
                   replace ge25_0 := (show Kd.R (Kd.int .i64) 3 _ _ _ _ (rd_L1 y200 x13_1) from ge25_0)
                   have HP25 := Kd.R_putg ge25_0 (x21_2 : Int) (wrap64 ((rd (rd_L1 y200 x13_1) x21_2) + (rd (rd_L1 y200 (ji16)) x21_2)))
                   rw [← Ny205.out] at HP25
                   have HS25 := hbk25 HP25.2 (fun k_ e_ => by injection e_ with e_; subst e_; exact ge25_0.1 _ rfl) (x' := y205) (Kd.M_row HP25.1)
                   rw [← Ny207.out] at HS25
                   have HQ25 := Aside0.mk HS25
                   clear HP25 HS25 hbk25 hok25
                   refine start_ (n := 18) (S := fun w' => w'.cell? (ad197.add (x13_1).toNat) = some (.slice (some ⟨go20, 0, none⟩) (rd_L1 y200 x13_1).length c201_0) ∧ w'.cell? ⟨go20, (x21_2).toNat, none⟩ = some (.int .i64 (rd (rd_L1 y200 x13_1) x21_2)) ∧ w'.cell? (ad197.add ((ji16)).toNat) = some (.slice (some ad204) (rd_L1 y200 (ji16)).length c203_0) ∧ w'.cell? (ad204.add (x21_2).toNat) = some (.int .i64 (rd (rd_L1 y200 (ji16)) x21_2))) (ds := [17]) #[false, false, false, false, false, false, false, false, false, false, false, false, false, false, false, false, false, false] (by kernel_rfl) rfl rfl ⟨hx201_0, hx202_0, hx203_0, hx204_0⟩ (fun hHeld => ?_); refine with_tabW spec_sgCorners.tab12 spec_sgCorners.bits12 (fun HT_ HW_ => ?_)
                   generalize w23.drew = w24 at HO_3 HL208 HB GG20 HL201_0 HL203_0 HQ25 HR201_0 HR203_0 HX201_0 HX203_0 hf20_0 hx201_0 hx202_0 hx203_0 hx204_0 hx20_0 hHeld ⊢
                   refine pure_ (i := 0) (N := some 38) (v := ?_) (a' := ?_) #[true, false, false, false, false, false, false, false, false, false, false, false, false, false, false, false, false, false] rfl rfl (any_of HT_.out (by kernel_rfl)) (fun _ _ _ h => h) (Or.inl ⟨by rfl, ?_⟩) ?_ ?_
                   rotate_left
                   ·intro w'
                    go_simp
                    with_reducible rfl
                   rotate_left
                   ·simp only [Act.put, List.setIfInBounds_toArray, List.set_cons_zero, List.set_cons_succ, i64_w, i32_w]
                    rfl
                   refine pure_ (i := 1) (N := some 39) (v := ?_) (a' := ?_) #[true, true, false, false, false, false, false, false, false, false, false, false, false, false, false, false, false, false] rfl rfl (any_of HT_.out (by kernel_rfl)) (fun _ _ _ h => h) (Or.inl ⟨by rfl, ?_⟩) ?_ ?_
                   rotate_left
                   ·intro w'
                    go_simp
                    with_reducible rfl
                   rotate_left
                   ·simp only [Act.put, List.setIfInBounds_toArray, List.set_cons_zero, List.set_cons_succ, i64_w, i32_w]
                    rfl
                   refine pure_ (i := 2) (N := some 40) (v := ?_) (a' := ?_) #[true, true, true, false, false, false, false, false, false, false, false, false, false, false, false, false, false, false] rfl rfl (any_of HT_.out (by kernel_rfl)) (fun _ _ _ h => h) (Or.inl ⟨by rfl, ?_⟩) ?_ ?_
                   rotate_left
                   ·intro w'
                    go_simp
                    with_reducible rfl
                   rotate_left
                   ·simp only [Act.put, List.setIfInBounds_toArray, List.set_cons_zero, List.set_cons_succ, i64_w, i32_w]
                    rfl
                   refine pure_ (i := 4) (N := some 42) (v := ?_) (a' := ?_) #[true, true, true, false, true, false, false, false, false, false, false, false, false, false, false, false, false, false] rfl rfl (any_of HT_.out (by kernel_rfl)) (fun _ _ _ h => h) (Or.inl ⟨by rfl, ?_⟩) ?_ ?_
                   rotate_left
                   ·intro w'
                    go_simp
                    with_reducible rfl
                   rotate_left
                   ·simp only [Act.put, List.setIfInBounds_toArray, List.set_cons_zero, List.set_cons_succ, i64_w, i32_w]
                    rfl
                   refine pure_ (i := 7) (N := some 45) (v := ?_) (a' := ?_) #[true, true, true, false, true, false, false, true, false, false, false, false, false, false, false, false, false, false] rfl rfl (any_of HT_.out (by kernel_rfl)) (fun _ _ _ h => h) (Or.inl ⟨by rfl, ?_⟩) ?_ ?_
                   rotate_left
                   ·intro w'
                    go_simp
                    with_reducible rfl
                   rotate_left
                   ·simp only [Act.put, List.setIfInBounds_toArray, List.set_cons_zero, List.set_cons_succ, i64_w, i32_w]
                    rfl
                   refine pure_ (i := 8) (N := some 46) (v := ?_) (a' := ?_) #[true, true, true, false, true, false, false, true, true, false, false, false, false, false, false, false, false, false] rfl rfl (any_of HT_.out (by kernel_rfl)) (fun _ _ _ h => h) (Or.inl ⟨by rfl, ?_⟩) ?_ ?_
                   rotate_left
                   ·intro w'
                    go_simp
                    with_reducible rfl
                   rotate_left
                   ·simp only [Act.put, List.setIfInBounds_toArray, List.set_cons_zero, List.set_cons_succ, i64_w, i32_w]
                    rfl
                   refine pure_ (i := 9) (N := some 47) (v := ?_) (a' := ?_) #[true, true, true, false, true, false, false, true, true, true, false, false, false, false, false, false, false, false] rfl rfl (any_of HT_.out (by kernel_rfl)) (fun _ _ _ h => h) (Or.inl ⟨by rfl, ?_⟩) ?_ ?_
                   rotate_left
                   ·intro w'
                    go_simp
                    with_reducible rfl
                   rotate_left
                   ·simp only [Act.put, List.setIfInBounds_toArray, List.set_cons_zero, List.set_cons_succ, i64_w, i32_w]
                    rfl
                   refine pure_ (i := 10) (N := some 48) (v := ?_) (a' := ?_) #[true, true, true, false, true, false, false, true, true, true, true, false, false, false, false, false, false, false] rfl rfl (any_of HT_.out (by kernel_rfl)) (fun _ _ _ h => h) (Or.inl ⟨by rfl, ?_⟩) ?_ ?_
                   rotate_left
                   ·intro w'
                    go_simp
                    with_reducible rfl
                   rotate_left
                   ·simp only [Act.put, List.setIfInBounds_toArray, List.set_cons_zero, List.set_cons_succ, i64_w, i32_w]
                    rfl
                   refine pure_ (i := 12) (N := some 50) (v := ?_) (a' := ?_) #[true, true, true, false, true, false, false, true, true, true, true, false, true, false, false, false, false, false] rfl rfl (any_of HT_.out (by kernel_rfl)) (fun _ _ _ h => h) (Or.inl ⟨by rfl, ?_⟩) ?_ ?_
                   rotate_left
                   ·intro w'
                    go_simp
                    with_reducible rfl
                   rotate_left
                   ·simp only [Act.put, List.setIfInBounds_toArray, List.set_cons_zero, List.set_cons_succ, i64_w, i32_w]
                    rfl
                   refine take_ (i := 3) (N := some 41) (v := ?_) (a' := ?_) #[true, true, true, true, true, false, false, true, true, true, true, false, true, false, false, false, false, false] rfl rfl (take_ofW HT_.out HW_.out (by kernel_rfl)) (fun _ _ _ h => h) (Or.inl ⟨by rfl, ?_⟩) hHeld ?_ ?_
                   rotate_left
                   ·rintro w' ⟨s0, s1, s2, s3⟩
                    go_simp
                    with_reducible rfl
                   rotate_left
                   ·simp only [Act.put, List.setIfInBounds_toArray, List.set_cons_zero, List.set_cons_succ, i64_w, i32_w]
                    rfl
                   refine pure_ (i := 5) (N := some 43) (v := ?_) (a' := ?_) #[true, true, true, true, true, true, false, true, true, true, true, false, true, false, false, false, false, false] rfl rfl (any_of HT_.out (by kernel_rfl)) (fun _ _ _ h => h) (Or.inl ⟨by rfl, ?_⟩) ?_ ?_
                   rotate_left
                   ·intro w'
                    go_simp
                    with_reducible rfl
                   rotate_left
                   ·simp only [Act.put, List.setIfInBounds_toArray, List.set_cons_zero, List.set_cons_succ, i64_w, i32_w]
                    rfl
                   refine take_ (i := 6) (N := some 44) (v := ?_) (a' := ?_) #[true, true, true, true, true, true, true, true, true, true, true, false, true, false, false, false, false, false] rfl rfl (take_ofW HT_.out HW_.out (by kernel_rfl)) (fun _ _ _ h => h) (Or.inl ⟨by rfl, ?_⟩) hHeld ?_ ?_
                   rotate_left
                   ·rintro w' ⟨s0, s1, s2, s3⟩
                    go_simp
                    with_reducible rfl
                   rotate_left
                   ·simp only [Act.put, List.setIfInBounds_toArray, List.set_cons_zero, List.set_cons_succ, i64_w, i32_w]
                    rfl
                   refine take_ (i := 11) (N := some 49) (v := ?_) (a' := ?_) #[true, true, true, true, true, true, true, true, true, true, true, true, true, false, false, false, false, false] rfl rfl (take_ofW HT_.out HW_.out (by kernel_rfl)) (fun _ _ _ h => h) (Or.inl ⟨by rfl, ?_⟩) hHeld ?_ ?_
                   rotate_left
                   ·rintro w' ⟨s0, s1, s2, s3⟩
                    go_simp
                    with_reducible rfl
                   rotate_left
                   ·simp only [Act.put, List.setIfInBounds_toArray, List.set_cons_zero, List.set_cons_succ, i64_w, i32_w]
                    rfl
                   refine pure_ (i := 13) (N := some 51) (v := ?_) (a' := ?_) #[true, true, true, true, true, true, true, true, true, true, true, true, true, true, false, false, false, false] rfl rfl (any_of HT_.out (by kernel_rfl)) (fun _ _ _ h => h) (Or.inl ⟨by rfl, ?_⟩) ?_ ?_
                   rotate_left
                   ·intro w'
                    go_simp
                    with_reducible rfl
                   rotate_left
                   ·simp only [Act.put, List.setIfInBounds_toArray, List.set_cons_zero, List.set_cons_succ, i64_w, i32_w]
                    rfl
                   refine take_ (i := 14) (N := some 52) (v := ?_) (a' := ?_) #[true, true, true, true, true, true, true, true, true, true, true, true, true, true, true, false, false, false] rfl rfl (take_ofW HT_.out HW_.out (by kernel_rfl)) (fun _ _ _ h => h) (Or.inl ⟨by rfl, ?_⟩) hHeld ?_ ?_
                   rotate_left
                   ·rintro w' ⟨s0, s1, s2, s3⟩
                    go_simp
                    with_reducible rfl
                   rotate_left
                   ·simp only [Act.put, List.setIfInBounds_toArray, List.set_cons_zero, List.set_cons_succ, i64_w, i32_w]
                    rfl
                   refine pure_ (i := 15) (N := some 53) (v := ?_) (a' := ?_) #[true, true, true, true, true, true, true, true, true, true, true, true, true, true, true, true, false, false] rfl rfl (any_of HT_.out (by kernel_rfl)) (fun _ _ _ h => h) (Or.inl ⟨by rfl, ?_⟩) ?_ ?_
                   rotate_left
                   ·intro w'
                    go_simp
                    with_reducible rfl
                   rotate_left
                   ·simp only [Act.put, List.setIfInBounds_toArray, List.set_cons_zero, List.set_cons_succ, i64_w, i32_w]
                    rfl
                   refine pure_ (i := 16) (N := some 54) (v := ?_) (a' := ?_) #[true, true, true, true, true, true, true, true, true, true, true, true, true, true, true, true, true, false] rfl rfl (any_of HT_.out (by kernel_rfl)) (fun _ _ _ h => h) (Or.inl ⟨by rfl, ?_⟩) ?_ ?_
                   rotate_left
                   ·intro w'
                    go_simp
                    with_reducible rfl
                   rotate_left
                   ·simp only [Act.put, List.setIfInBounds_toArray, List.set_cons_zero, List.set_cons_succ, i64_w, i32_w]
                    rfl
                   refine last_ (i := 17) (N := none) #[true, true, true, true, true, true, true, true, true, true, true, true, true, true, true, true, true, true] rfl rfl (one_of HT_.out (by kernel_rfl)) (by decide) (fun K hK => ?_)
                   refine skip_ (w1 := ?_) (by rfl) rfl ?_ ?_
                   rotate_left
                   ·go_simp
                    rfl
                   refine hK.out _ _ ?_
                   clear hK K
                   refine done_ (done_of HT_.out (by kernel_rfl)) ?_
                   try go_wp2
                   go_roundg k2
                   case measure => have := HK1.out; have := HK2.out; omega
                   case rel => exact ⟨(y207), (wrap64 (x5_2 + (rd (rd_L1 l0 x13_1) x21_2))), (wrap64 (x21_2 + 1)), (by first | rfl | (simp; done) | (simp [*]; done)), (by first | rfl | (simp; done) | (simp [*]; done)), H', ⟨by have := HK1.out; have := HK2.out; omega⟩, ⟨by (with_reducible repeat (first | apply Kd.S_alloc | apply Kd.S_drewN | apply Kd.S_drew)); exact HQ25.out⟩, ⟨by repeat (first | (with_reducible first | exact HB.out | apply below_alloc | apply pw_below_drewN | apply below_drew1 | refine below_set ?_ GB20.out) | exact HB.out)⟩⟩
                  ·rw [if_neg c19] at H
                   exact absurd H (by simp)
                 ·rw [if_neg c18] at H
                  exact absurd H (by simp)
                ·rw [if_neg c17] at H
                 exact absurd H (by simp)
               ·rw [if_neg c15] at H
                exact absurd H (by simp)
              ·rw [if_neg c14] at H
               have c14b0 : decide (0 < x13_1) = false := decide_eq_false c14
               clear c14
               have H' := Aside0.mk H
               clear H
               have p196 : 0 ≤ (x21_2 : Int) := of_decide_eq_true (by first | (with_reducible assumption) | assumption)
               have q196 : x21_2 < ((rd_L1 l0 x13_1).length : Int) := of_decide_eq_true (by first | (with_reducible assumption) | assumption)
               obtain ⟨ad196, e196, hx196_0⟩ := Kd.at_int HR195_0.out x21_2 p196 q196
               cases e196
               (try replace hx196_0 := (HB.out.cell (World.block_lt_of_cell? w _ hx196_0)).trans hx196_0)
               replace p196 := eq_true p196
               replace q196 := eq_true q196
               obtain ⟨Ao27, co27, eo27⟩ := Kd.S_slice HO_3.out
               subst eo27
               have p197 : 0 ≤ (x13_1 : Int) := of_decide_eq_true (by first | (with_reducible assumption) | assumption)
               have q197 : x13_1 < (x3_2.length : Int) := of_decide_eq_true (by first | (with_reducible assumption) | assumption)
               obtain ⟨ad197, A197_0, c197_0, e197, hx197_0, hl197_0, hi197_0⟩ := at_L1 (Kd.S_reads' HO_3.out).2.2 x13_1 p197 q197
               cases e197
               obtain ⟨ce197, hce197, hMe197, hcc197⟩ := Kd.S_get HO_3.out [] x13_1 p197 (by first | exact q197 | exact of_decide_eq_true (by first | (with_reducible assumption) | assumption) | (have e_ := (Kd.S_reads' HO_3.out).1; omega))
               obtain ⟨ve197_0, rfl, ge197_0⟩ := hMe197
               have hv197_0 := hcc197 0 _ rfl
               rw [Nat.add_zero, show ((Kd.slice 3 (Kd.int .i64))).sz = 1 from rfl, Nat.mul_one] at hv197_0
               replace hv197_0 := Option.some.inj (hv197_0.symm.trans hx197_0)
               rw [hv197_0] at ge197_0
               have HL197_0 := Aside0.mk (show Kd.R (Kd.int .i64) 3 _ _ _ _ (rd_L1 x3_2 x13_1) from ge197_0)
               clear hv197_0 ge197_0
               have HX197_0 := Aside0.mk hx197_0
               clear hcc197 hce197
               have HR197_0 := Aside0.mk hi197_0
               have HC197_0 := Aside0.mk hl197_0
               clear hi197_0 hl197_0
               replace p197 := eq_true p197
               replace q197 := eq_true q197
               have p13 : 0 ≤ (x21_2 : Int) := of_decide_eq_true (by first | (with_reducible assumption) | assumption)
               have q13 : (x21_2 : Int) < (((rd_L1 x3_2 x13_1).length : Int) : Int) := of_decide_eq_true (by first | (with_reducible assumption) | assumption)
               obtain ⟨go13, co13, eo13, gb13, gl13, cl13, HG13⟩ := Kd.R_form HL197_0.out (by omega)
               (first | cases eo13 | (injection eo13 with ea_ en_ ec_; (first | subst ea_ | (injection ea_ with ea_; subst ea_)); subst ec_; clear en_))
               have GB13 := Aside0.mk gb13
               have GG13 := Aside0.mk HG13
               clear gb13 gl13 HG13
               obtain ⟨hx13_0, hf13_0⟩ := Kd.R_celln 0 HL197_0.out (x21_2 : Int) p13 q13
               replace p13 := eq_true p13
               replace q13 := eq_true q13
               have hq28 : (x13_1 : Int) < (x3_2.length : Int) := (by have h_ : (x13_1 : Int) < ((x3_2.length : Int) : Int) := of_decide_eq_true (by first | (with_reducible assumption) | assumption); first | exact h_ | (have e_ := (Kd.S_reads' HO_3.out).1; omega) | simpa only [List.length_set, List.length_set] using h_)
               obtain ⟨oki28, ce28, hcl28, hM28, hcc28, hok28, hbk28⟩ := Kd.S_borrow HO_3.out [] (x13_1 : Int) (of_decide_eq_true (by first | (with_reducible assumption) | assumption)) (by first | exact hq28 | (have e_ := (Kd.S_reads' HO_3.out).1; omega))
               obtain ⟨ve28_0, rfl, ge28_0⟩ := hM28
               have hv28 := hcc28 0 _ rfl
               rw [Nat.add_zero, show ((Kd.slice 3 (Kd.int .i64))).sz = 1 from rfl, Nat.mul_one] at hv28
               replace hv28 := Option.some.inj (hv28.symm.trans HX197_0.out)
               subst hv28
               clear hcc28 hcl28
               replace ge28_0 := (show Kd.R (Kd.int .i64) 3 _ _ _ _ (rd_L1 x3_2 x13_1) from ge28_0)
               have HP28 := Kd.R_putg ge28_0 (x21_2 : Int) (wrap64 (x5_2 + (rd (rd_L1 l0 x13_1) x21_2)))
               go_wp2_with (first | ((with_reducible refine gate_store (t := 3) (p := 35) rfl ?_); refine store_event (t := 3) (p := 35) (v := ?vo_w29) (w1 := (wr.setCell ⟨go13, (x21_2 : Int).toNat, none⟩ (.int .i64 (wrap64 (x5_2 + (rd (rd_L1 l0 x13_1) x21_2)))))) ?hg ?ho ?hn ?hr ?_; (case ho => rfl); (case hg => rfl); (case hn => rfl); (case hr => first | (go_simp; done) | (go_simp; rfl)); intro w29 hw; have hg : wr.grownBy w29 (some go13) := (by rw [hw]; exact HP28.2); have hz_ : Kd.R (Kd.int .i64) 3 w29 w.heap.size oki28 (.slice (some ⟨go13, 0, none⟩) (rd_L1 x3_2 x13_1).length c197_0) y198 := (by rw [hw, Ny198.out]; exact HP28.1); have hp_ : Kd.S (Kd.slice 3 (Kd.int .i64)) 34 w29 w.heap.size (fun _ => True) (.slice (some ad197) x3_2.length co27) y200 := (by rw [Ny200.out]; exact hbk28 hg (fun k_ e_ => by injection e_ with e_; subst e_; exact ge28_0.1 _ rfl) (Kd.M_row hz_)); have hm_ := Kd.R_mono hz_ hok28; clear HP28 hbk28; have n0_ := Aside0.mk (hp_); have n1_ := Aside0.mk ((by rw [hw]; exact below_set (HB.out) GB13.out : Below w.heap.size w w29)); have n2_ := Aside0.mk (hm_); have n3_ := Aside0.mk ((Kd.R_reads' hm_).2.1); clear HO_3; clear HB; clear HL197_0; have HO_3 := n0_; have HB := n1_; have HL209 := n2_; have HC199 := n3_; clear n0_ n1_ n2_ n3_; clear hg hw hp_ hz_ hm_ hok28))
               go_roundg k2
               case measure => have := HK1.out; have := HK2.out; omega
               case rel => exact ⟨(y200), (wrap64 (x5_2 + (rd (rd_L1 l0 x13_1) x21_2))), (wrap64 (x21_2 + 1)), (by first | rfl | (simp; done) | (simp [*]; done)), (by first | rfl | (simp; done) | (simp [*]; done)), H', ⟨by have := HK1.out; have := HK2.out; omega⟩, ⟨by (with_reducible repeat (first | apply Kd.S_alloc | apply Kd.S_drewN | apply Kd.S_drew)); exact HO_3.out⟩, ⟨by repeat (first | (with_reducible first | exact HB.out | apply below_alloc | apply pw_below_drewN | apply below_drew1) | exact HB.out)⟩⟩
             ·rw [if_neg c12] at H
              exact absurd H (by simp)
            ·rw [if_neg c11] at H
             exact absurd H (by simp)
           ·rw [if_neg c10] at H
            exact absurd H (by simp)
          ·rw [if_neg c9] at H
           exact absurd H (by simp)
         ·rw [if_neg c8] at H
          exact absurd H (by simp)
        ·rw [if_neg c7] at H
         have c7b0 : decide (x21_2 < ((rd_L1 l0 x13_1).length : Int)) = false := decide_eq_false c7
         clear c7
         have H' := Aside0.mk H
         clear H
         go_wp2
         go_roundg k2
         case measure => have := HK1.out; have := HK2.out; omega
         case rel => exact ⟨(x3_2), (wrap64 (x13_1 + 1)), (by first | rfl | (simp; done) | (simp [*]; done)), H', ⟨by have := HK1.out; have := HK2.out; omega⟩, ⟨by (with_reducible repeat (first | apply Kd.S_alloc | apply Kd.S_drewN | apply Kd.S_drew)); exact HO_3.out⟩, ⟨by repeat (first | (with_reducible first | exact HB.out | apply below_alloc | apply pw_below_drewN | apply below_drew1) | exact HB.out)⟩⟩
     ·rw [if_neg c6] at H
      exact absurd H (by simp)
    ·rw [if_neg c5] at H
     exact absurd H (by simp)
   ·rw [if_neg c4] at H
    have c4b0 : decide (x13_1 < (l0.length : Int)) = false := decide_eq_false c4
    clear c4
    obtain rfl := Option.some.inj H
    go_wp2
    go_ret
    exact ⟨_, by first | rfl | (simp [errW_none, errW_some] <;> rfl) | (simp [*, errW_none, errW_some] <;> rfl), by (with_reducible repeat (first | apply Kd.S_alloc | apply Kd.S_drewN | apply Kd.S_drew)); exact HO_3.out, by repeat (first | (with_reducible first | exact HB.out | apply below_alloc | apply pw_below_drewN | apply below_drew1) | exact HB.out)⟩

end Go.Proofs.Ythlgclfhoeakgaa.P
