/- Texts of one chain, in build order. -/
import Derived.Test.YtflhhbpgkjpbdaaZGyrationOrbit5
import Derived.Test.YtflhhbpgkjpbdaaZGyrationOrbit23
import Derived.Test.YtflhhbpgkjpbdaaZGyrationOrbit27
-- Written by a program of this session (wip/mkprint.py): out of the translation; Lean checks it.
namespace Go.Proofs.Ytflhhbpgkjpbdaa.P
open Go.RowKit Go.Proofs.YtflhhbpgkjpbdaaW.PrintWords Go.Proofs.YtflhhbpgkjpbdaaW.PrintLast Go.Proofs.YtflhhbpgkjpbdaaW.PrintMore
attribute [local go_sem] max2_int min2_int max_two min_two max_three min_three max_four min_four   -- for this text's walks alone
set_option linter.unusedVariables false
set_option linter.unusedSimpArgs false

/-! ### spec_heFrom: function 68 -/
mutual
def spec_heFrom.l0 : Nat → List (List Int) → List (List Int) → Int → Int → Option ((List (List Int)))
 | 0, _, _, _, _ => none
 | k + 1, x0, x4, x13, x14 => if x14 < x13 then (spec_heFrom.l1 k x0 x4 x14 x13 x14 (x4.length : Int) 0) else ((spec_sgFrom.f k x4).bind fun t246 => (some t246))
def spec_heFrom.l1 : Nat → List (List Int) → List (List Int) → Int → Int → Int → Int → Int → Option ((List (List Int)))
 | 0, _, _, _, _, _, _, _ => none
 | k + 1, x0, x4, x5, x13, x14, x18, x19 => if x19 < x18 then (if 0 ≤ x5 then (if x5 < (x4.length : Int) then (if 0 ≤ (wrap64 (x5 + 1)) then (if (wrap64 (x5 + 1)) < (x0.length : Int) then (if 0 ≤ (wrap64 (x19 + 1)) then (if (wrap64 (x19 + 1)) < ((rd_L1 x0 (wrap64 (x5 + 1))).length : Int) then (if 0 ≤ x19 then (if x19 < ((rd_L1 x4 x5).length : Int) then (spec_heFrom.l1 k x0 (x4.set (x5 : Int).toNat ((rd_L1 x4 x5).set (x19 : Int).toNat (wrap64 (Int.tdiv (wrap64 ((wrap64 ((wrap64 (x5 + x19)) + 2)) - (rd (rd_L1 x0 (wrap64 (x5 + 1))) (wrap64 (x19 + 1))))) 2)))) x5 x13 x14 x18 (wrap64 (x19 + 1))) else (none)) else (none)) else (none)) else (none)) else (none)) else (none)) else (none)) else (none)) else (spec_heFrom.l0 k x0 x4 x13 (wrap64 (x14 + 1)))
end
def spec_heFrom.f (k : Nat) (l0 : List (List Int)) : Option ((List (List Int))) := (spec_sgZero.f k (wrap64 ((l0.length : Int) - 1))).bind fun t243 => (spec_heFrom.l0 k l0 t243 (t243.length : Int) 0)
theorem spec_heFrom.mono_l : ∀ k, (∀ y0 y1 y2 y3, LeO (spec_heFrom.l0 k y0 y1 y2 y3) (spec_heFrom.l0 (k + 1) y0 y1 y2 y3)) ∧ (∀ y0 y1 y2 y3 y4 y5 y6, LeO (spec_heFrom.l1 k y0 y1 y2 y3 y4 y5 y6) (spec_heFrom.l1 (k + 1) y0 y1 y2 y3 y4 y5 y6))
 | 0 => ⟨fun _ _ _ _ r h => by simp [spec_heFrom.l0] at h, fun _ _ _ _ _ _ _ r h => by simp [spec_heFrom.l1] at h⟩
 | k + 1 => by
  obtain ⟨ih0, ih1⟩ := spec_heFrom.mono_l k
  refine ⟨?_, ?_⟩
  ·intro y0 y1 y2 y3
   unfold spec_heFrom.l0
   repeat' first
   | (with_reducible exact ih0 _ _ _ _)
   | (with_reducible exact ih1 _ _ _ _ _ _ _)
   | (with_reducible exact spec_sgFrom.mono _ _)
   | (with_reducible exact spec_sgZero.mono _ _)
   | (with_reducible exact LeO.refl _)
   | (with_reducible exact LeO.none _)
   | (with_reducible refine LeO.ite ?_ ?_)
   | (with_reducible refine LeO.bind ?_ (fun _ => ?_))
   | exact ih0 _ _ _ _
   | exact ih1 _ _ _ _ _ _ _
   | exact spec_sgFrom.mono _ _
   | exact spec_sgZero.mono _ _
   | exact LeO.none _
   | refine LeO.ite ?_ ?_
   | refine LeO.bind ?_ (fun _ => ?_)
  ·intro y0 y1 y2 y3 y4 y5 y6
   unfold spec_heFrom.l1
   repeat' first
   | (with_reducible exact ih0 _ _ _ _)
   | (with_reducible exact ih1 _ _ _ _ _ _ _)
   | (with_reducible exact spec_sgFrom.mono _ _)
   | (with_reducible exact spec_sgZero.mono _ _)
   | (with_reducible exact LeO.refl _)
   | (with_reducible exact LeO.none _)
   | (with_reducible refine LeO.ite ?_ ?_)
   | (with_reducible refine LeO.bind ?_ (fun _ => ?_))
   | exact ih0 _ _ _ _
   | exact ih1 _ _ _ _ _ _ _
   | exact spec_sgFrom.mono _ _
   | exact spec_sgZero.mono _ _
   | exact LeO.none _
   | refine LeO.ite ?_ ?_
   | refine LeO.bind ?_ (fun _ => ?_)
theorem spec_heFrom.mono : ∀ a0 k, LeO (spec_heFrom.f k a0) (spec_heFrom.f (k + 1) a0) := by
 intro a0 k
 obtain ⟨ih0, ih1⟩ := spec_heFrom.mono_l k
 unfold spec_heFrom.f
 repeat' first
   | (with_reducible exact ih0 _ _ _ _)
   | (with_reducible exact ih1 _ _ _ _ _ _ _)
   | (with_reducible exact spec_sgFrom.mono _ _)
   | (with_reducible exact spec_sgZero.mono _ _)
   | (with_reducible exact LeO.refl _)
   | (with_reducible exact LeO.none _)
   | (with_reducible refine LeO.ite ?_ ?_)
   | (with_reducible refine LeO.bind ?_ (fun _ => ?_))
   | exact ih0 _ _ _ _
   | exact ih1 _ _ _ _ _ _ _
   | exact spec_sgFrom.mono _ _
   | exact spec_sgZero.mono _ _
   | exact LeO.none _
   | refine LeO.ite ?_ ?_
   | refine LeO.bind ?_ (fun _ => ?_)
def spec_heFrom.T9 : Bool × List (List Nat × List Nat) := (true, [([], []), ([], []), ([0, 1], [0, 1]), ([2], [2]), ([], []), ([], []), ([], []), ([5, 6], [5, 6]), ([7], [7]), ([], []), ([], []), ([10], [10]), ([9, 11], [9, 11]), ([12], [12]), ([], []), ([14], [14]), ([13, 15], [13, 15]), ([16], [16]), ([8, 17], [8, 17]), ([18], [18]), ([3, 4, 0, 1, 2, 3, 4, 5, 6, 7, 8, 9, 10, 11, 12, 13, 14, 15, 16, 17, 18, 19], [3, 4]), ([20, 19, 0, 1, 2, 3, 4, 5, 6, 7, 8, 9, 10, 11, 12, 13, 14, 15, 16, 17, 18, 19], [19, 20])])
def spec_heFrom.B9 : List Nat := [0, 0, 3, 7, 0, 0, 0, 96, 224, 0, 0, 1024, 3584, 7680, 0, 16384, 65024, 130560, 262112, 524256, 1048575, 2097151]
theorem spec_heFrom.tab9 : rtab .any (opsOf Try.f68 9) = spec_heFrom.T9 := by kernel_rfl
theorem spec_heFrom.bits9 : waitsOk spec_heFrom.T9.2 spec_heFrom.B9 = true := by kernel_rfl
set_option maxHeartbeats 8000000 in
set_option maxRecDepth 100000 in
theorem spec_heFrom.calls (k : Nat) (A0 : Option Addr) (c0 : Nat) (l0 : List (List Int)) (r : List (List Int)) (w : World) (hr0 : Kd.C (Kd.slice 3 (Kd.int .i64)) w A0 l0.length l0) (hc0 : l0.length ≤ c0) (h : spec_heFrom.f k l0 = some r) :
  Calls Try.prog 68 #[.slice A0 l0.length c0] w fun e w' => ∃ v0_ : Value, e = .returned (v0_) ∧ Kd.S (Kd.slice 3 (Kd.int .i64)) 43 w' w.heap.size (fun _ => True) v0_ r ∧ Below w.heap.size w w' := by
 have HR0 := Aside0.mk hr0
 have HC0 := Aside0.mk hc0
 clear hr0 hc0
 have HB := Aside0.mk (Below.refl w.heap.size w)
 have H : ((spec_sgZero.f k (wrap64 ((l0.length : Int) - 1))).bind fun t243 => (spec_heFrom.l0 k l0 t243 (t243.length : Int) 0)) = some r := h
 clear h
 replace H := Option.bind_eq_some_iff.mp H
 obtain ⟨t243, A20, H⟩ := H
 replace H : (spec_heFrom.l0 k l0 t243 (t243.length : Int) 0) = some r := H
 have A2 := Aside0.mk A20
 clear A20
 have H' := Aside0.mk H
 clear H
 go_enter Try.func68, Try.ntmps68
 go_wp2_with (first | ((with_reducible refine gate_callee (f := 112) rfl ?_); refine goesL_ (some 11) rfl rfl Try.func112 (by kernel_rfl) rfl #[.int .i64 (wrap64 ((l0.length : Int) - 1))] rfl (by (try simp only [List.map_toArray, List.map_cons, List.map_nil]); first | done | rfl | (simp only [List.length_drop, List.length_take]; rfl)) ?_; (with_reducible refine (spec_sgZero.calls k (wrap64 ((l0.length : Int) - 1)) t243 _ A2.out).mono ?_); rintro e w3 ⟨v244, rfl, ho0, hb⟩; refine ⟨_, rfl, ?_⟩; have n0_ := Aside0.mk (Kd.S_lower ho0 (below_size (by repeat (first | (with_reducible first | exact HB.out | apply below_alloc | apply pw_below_drewN | apply below_drew1) | exact HB.out)))); have n1_ := Aside0.mk (below_step (by repeat (first | (with_reducible first | exact HB.out | apply below_alloc | apply pw_below_drewN | apply below_drew1) | exact HB.out)) hb); clear HB; have HO245 := n0_; have HB := n1_; clear n0_ n1_; (try clear hb); (try clear hb2); (try clear hk); (try clear hi); (try clear ho0); obtain ⟨Ao4, co4, eo4⟩ := Kd.S_slice HO245.out; subst eo4))
 go_loopg [14] k (fun kq v14 w' => ∃ (x4_1 : List (List Int)) (x14_1 : Int), v14 = .int .i64 x14_1 ∧ Aside0 (spec_heFrom.l0 kq l0 x4_1 (t243.length : Int) x14_1 = some r) ∧ Aside0 (kq ≤ k) ∧ Aside0 (Kd.S (Kd.slice 3 (Kd.int .i64)) 43 w' w.heap.size (fun _ => True) (.slice Ao4 t243.length co4) x4_1) ∧ Aside0 (Below w.heap.size w w'))
 case atStart => exact ⟨(t243), (0), (by first | rfl | (simp; done) | (simp [*]; done)), H', ⟨Nat.le_refl _⟩, ⟨by (with_reducible repeat (first | apply Kd.S_alloc | apply Kd.S_drewN | apply Kd.S_drew)); exact HO245.out⟩, ⟨by repeat (first | (with_reducible first | exact HB.out | apply below_alloc | apply pw_below_drewN | apply below_drew1) | exact HB.out)⟩⟩
 case round =>
  clear H'
  try clear c1
  try clear p2
  obtain ⟨x4_1, x14_1, rfl, HA, HK1, HO_4, HB⟩ := hrel
  have hl4_1 := (Kd.S_reads' HO_4.out).1
  rw [hl4_1] at HO_4
  (try simp only [hl4_1])
  cases gk with
  | zero => exact absurd HA.out (by simp [spec_heFrom.l0])
  | succ k1 =>
   have H := HA.out
   clear HA
   simp only [spec_heFrom.l0] at H
   by_cases c5 : x14_1 < (t243.length : Int)
   ·rw [if_pos c5] at H
    have c5b0 : decide (x14_1 < (t243.length : Int)) = true := decide_eq_true c5
    (try have c5b0_ : decide (x14_1 < (x4_1.length : Int)) = true := by rw [← hl4_1]; exact c5b0)
    clear c5
    have H' := Aside0.mk H
    clear H
    go_wp2
    go_loopg [19] k1 (fun kq v19 w' => ∃ (x4_2 : List (List Int)) (x19_2 : Int), v19 = .int .i64 x19_2 ∧ Aside0 (spec_heFrom.l1 kq l0 x4_2 x14_1 (t243.length : Int) x14_1 (x4_1.length : Int) x19_2 = some r) ∧ Aside0 (kq ≤ k1) ∧ Aside0 (Kd.S (Kd.slice 3 (Kd.int .i64)) 43 w' w.heap.size (fun _ => True) (.slice Ao4 x4_1.length co4) x4_2) ∧ Aside0 (Below w.heap.size w w'))
    case atStart => exact ⟨(x4_1), (0), (by first | rfl | (simp; done) | (simp [*]; done)), H', ⟨Nat.le_refl _⟩, ⟨by (try simp only [hl4_1]); (with_reducible repeat (first | apply Kd.S_alloc | apply Kd.S_drewN | apply Kd.S_drew)); exact HO_4.out⟩, ⟨by repeat (first | (with_reducible first | exact HB.out | apply below_alloc | apply pw_below_drewN | apply below_drew1) | exact HB.out)⟩⟩
    case round =>
     clear H'
     try clear c1
     try clear p2
     try clear c5
     try clear c5b0
     try clear p2
     obtain ⟨x4_2, x19_2, rfl, HA, HK2, HO_4, HB⟩ := hrel
     have hl4_2 := (Kd.S_reads' HO_4.out).1
     rw [hl4_2] at HO_4
     (try simp only [hl4_2])
     cases gk with
     | zero => exact absurd HA.out (by simp [spec_heFrom.l1])
     | succ k2 =>
      have H := HA.out
      clear HA
      simp only [spec_heFrom.l1] at H
      by_cases c6 : x19_2 < (x4_1.length : Int)
      ·rw [if_pos c6] at H
       have c6b0 : decide (x19_2 < (x4_1.length : Int)) = true := decide_eq_true c6
       (try have c6b0_ : decide (x19_2 < (x4_2.length : Int)) = true := by rw [← hl4_2]; exact c6b0)
       clear c6
       by_cases c7 : 0 ≤ x14_1
       ·rw [if_pos c7] at H
        have c7b0 : decide (0 ≤ x14_1) = true := decide_eq_true c7
        clear c7
        by_cases c8 : x14_1 < (x4_2.length : Int)
        ·rw [if_pos c8] at H
         have c8b0 : decide (x14_1 < (x4_2.length : Int)) = true := decide_eq_true c8
         clear c8
         obtain ⟨ji9, hji9⟩ : ∃ j_ : Int, (wrap64 (x14_1 + 1)) = j_ := ⟨_, rfl⟩
         replace H : (if 0 ≤ (ji9) then (if (ji9) < (l0.length : Int) then (if 0 ≤ (wrap64 (x19_2 + 1)) then (if (wrap64 (x19_2 + 1)) < ((rd_L1 l0 (ji9)).length : Int) then (if 0 ≤ x19_2 then (if x19_2 < ((rd_L1 x4_2 x14_1).length : Int) then (spec_heFrom.l1 k2 l0 (x4_2.set (x14_1 : Int).toNat ((rd_L1 x4_2 x14_1).set (x19_2 : Int).toNat (wrap64 (Int.tdiv (wrap64 ((wrap64 ((wrap64 (x14_1 + x19_2)) + 2)) - (rd (rd_L1 l0 (ji9)) (wrap64 (x19_2 + 1))))) 2)))) x14_1 (t243.length : Int) x14_1 (x4_1.length : Int) (wrap64 (x19_2 + 1))) else (none)) else (none)) else (none)) else (none)) else (none)) else (none)) = some r := by first | (rw [hji9] at H; exact H) | (simp only [hji9] at H ⊢; exact H)
         have hji9w : (IntKind.i64.wrap (x14_1 + 1)) = ji9 := (i64_w _).trans hji9
         by_cases c10 : 0 ≤ (ji9)
         ·rw [if_pos c10] at H
          have c10b0 : decide (0 ≤ (ji9)) = true := decide_eq_true c10
          clear c10
          by_cases c11 : (ji9) < (l0.length : Int)
          ·rw [if_pos c11] at H
           have c11b0 : decide ((ji9) < (l0.length : Int)) = true := decide_eq_true c11
           clear c11
           obtain ⟨ji12, hji12⟩ : ∃ j_ : Int, (wrap64 (x19_2 + 1)) = j_ := ⟨_, rfl⟩
           replace H : (if 0 ≤ (ji12) then (if (ji12) < ((rd_L1 l0 (ji9)).length : Int) then (if 0 ≤ x19_2 then (if x19_2 < ((rd_L1 x4_2 x14_1).length : Int) then (spec_heFrom.l1 k2 l0 (x4_2.set (x14_1 : Int).toNat ((rd_L1 x4_2 x14_1).set (x19_2 : Int).toNat (wrap64 (Int.tdiv (wrap64 ((wrap64 ((wrap64 (x14_1 + x19_2)) + 2)) - (rd (rd_L1 l0 (ji9)) (ji12)))) 2)))) x14_1 (t243.length : Int) x14_1 (x4_1.length : Int) ji12) else (none)) else (none)) else (none)) else (none)) = some r := by first | (rw [hji12] at H; exact H) | (simp only [hji12] at H ⊢; exact H)
           have hji12w : (IntKind.i64.wrap (x19_2 + 1)) = ji12 := (i64_w _).trans hji12
           by_cases c13 : 0 ≤ (ji12)
           ·rw [if_pos c13] at H
            have c13b0 : decide (0 ≤ (ji12)) = true := decide_eq_true c13
            clear c13
            by_cases c14 : (ji12) < ((rd_L1 l0 (ji9)).length : Int)
            ·rw [if_pos c14] at H
             have c14b0 : decide ((ji12) < ((rd_L1 l0 (ji9)).length : Int)) = true := decide_eq_true c14
             clear c14
             by_cases c15 : 0 ≤ x19_2
             ·rw [if_pos c15] at H
              have c15b0 : decide (0 ≤ x19_2) = true := decide_eq_true c15
              clear c15
              by_cases c16 : x19_2 < ((rd_L1 x4_2 x14_1).length : Int)
              ·rw [if_pos c16] at H
               have c16b0 : decide (x19_2 < ((rd_L1 x4_2 x14_1).length : Int)) = true := decide_eq_true c16
               clear c16
               obtain ⟨y252, hy252⟩ : ∃ y_ : List Int, y_ = ((rd_L1 x4_2 x14_1).set (x19_2 : Int).toNat (wrap64 (Int.tdiv (wrap64 ((wrap64 ((wrap64 (x14_1 + x19_2)) + 2)) - (rd (rd_L1 l0 (ji9)) (ji12)))) 2))) := ⟨_, rfl⟩
               replace H : (spec_heFrom.l1 k2 l0 (x4_2.set (x14_1 : Int).toNat y252) x14_1 (t243.length : Int) x14_1 (x4_1.length : Int) ji12) = some r := by first | (rw [hy252]; with_reducible exact H) | (have H2_ := (Option.bind_some _ _).symm.trans H; rw [hy252]; with_reducible exact H2_) | (have H2_ := (Option.bind_some _ _).symm.trans H; with_reducible exact H2_) | with_reducible exact H | (rw [hy252]; exact H) | exact H
               have Ny252 := Aside0.mk hy252
               clear hy252
               obtain ⟨y254, hy254⟩ : ∃ y_ : List (List Int), y_ = (x4_2.set (x14_1 : Int).toNat y252) := ⟨_, rfl⟩
               replace H : (spec_heFrom.l1 k2 l0 y254 x14_1 (t243.length : Int) x14_1 (x4_1.length : Int) ji12) = some r := by first | (rw [hy254]; with_reducible exact H) | (have H2_ := (Option.bind_some _ _).symm.trans H; rw [hy254]; with_reducible exact H2_) | (have H2_ := (Option.bind_some _ _).symm.trans H; with_reducible exact H2_) | with_reducible exact H | (rw [hy254]; exact H) | exact H
               have Ny254 := Aside0.mk hy254
               clear hy254
               have H' := Aside0.mk H
               clear H
               try go_wp2
               have n0_ := Aside0.mk (Kd.S_drew HO_4.out)
               have n1_ := Aside0.mk (below_drew1 HB.out)
               clear HO_4
               clear HB
               have HO_4 := n0_
               have HB := n1_
               clear n0_ n1_
               have p249 : 0 ≤ (x14_1 : Int) := of_decide_eq_true (by assumption)
               have q249 : x14_1 < (x4_2.length : Int) := of_decide_eq_true (by assumption)
               obtain ⟨ad249, A249_0, c249_0, e249, hx249_0, hl249_0, hi249_0⟩ := at_L1 (Kd.S_reads' HO_4.out).2.2 x14_1 p249 q249
               cases e249
               obtain ⟨ce249, hce249, hMe249, hcc249⟩ := Kd.S_get HO_4.out [] x14_1 p249 (by first | exact q249 | exact of_decide_eq_true (by assumption) | (have e_ := (Kd.S_reads' HO_4.out).1; omega))
               obtain ⟨ve249_0, rfl, ge249_0⟩ := hMe249
               have hv249_0 := hcc249 0 _ rfl
               rw [Nat.add_zero, show ((Kd.slice 3 (Kd.int .i64))).sz = 1 from rfl, Nat.mul_one] at hv249_0
               replace hv249_0 := Option.some.inj (hv249_0.symm.trans hx249_0)
               rw [hv249_0] at ge249_0
               have HL249_0 := Aside0.mk (show Kd.R (Kd.int .i64) 3 _ _ _ _ (rd_L1 x4_2 x14_1) from ge249_0)
               clear hv249_0 ge249_0
               have HX249_0 := Aside0.mk hx249_0
               clear hcc249 hce249
               have HR249_0 := Aside0.mk hi249_0
               have HC249_0 := Aside0.mk hl249_0
               clear hi249_0 hl249_0
               replace p249 := eq_true p249
               replace q249 := eq_true q249
               have p250 : 0 ≤ ((ji9) : Int) := of_decide_eq_true (by assumption)
               have q250 : (ji9) < (l0.length : Int) := of_decide_eq_true (by assumption)
               obtain ⟨ad250, A250_0, c250_0, e250, hx250_0, hl250_0, hi250_0⟩ := at_L1 HR0.out (ji9) p250 q250
               have hw250_0 := hx250_0
               cases e250
               (try replace hx250_0 := (HB.out.cell (World.block_lt_of_cell? w _ hx250_0)).trans hx250_0)
               have HR250_0 := Aside0.mk hi250_0
               have HC250_0 := Aside0.mk hl250_0
               clear hi250_0 hl250_0
               replace p250 := eq_true p250
               replace q250 := eq_true q250
               have p251 : 0 ≤ ((ji12) : Int) := of_decide_eq_true (by assumption)
               have q251 : (ji12) < ((rd_L1 l0 (ji9)).length : Int) := of_decide_eq_true (by assumption)
               obtain ⟨ad251, e251, hx251_0⟩ := Kd.at_int HR250_0.out (ji12) p251 q251
               have hw251_0 := hx251_0
               cases e251
               (try replace hx251_0 := (HB.out.cell (World.block_lt_of_cell? w _ hx251_0)).trans hx251_0)
               replace p251 := eq_true p251
               replace q251 := eq_true q251
               have p17 : 0 ≤ (x19_2 : Int) := of_decide_eq_true (by assumption)
               have q17 : (x19_2 : Int) < (((rd_L1 x4_2 x14_1).length : Int) : Int) := of_decide_eq_true (by assumption)
               obtain ⟨go17, co17, eo17, gb17, gl17, cl17, HG17⟩ := Kd.R_form HL249_0.out (by omega)
               (first | cases eo17 | (injection eo17 with ea_ en_ ec_; (first | subst ea_ | (injection ea_ with ea_; subst ea_)); subst ec_; clear en_))
               have GB17 := Aside0.mk gb17
               have GG17 := Aside0.mk HG17
               clear gb17 gl17 HG17
               obtain ⟨hx17_0, hf17_0⟩ := Kd.R_celln 0 HL249_0.out (x19_2 : Int) p17 q17
               replace p17 := eq_true p17
               replace q17 := eq_true q17
               have hq19 : (x14_1 : Int) < (x4_2.length : Int) := (by have h_ : (x14_1 : Int) < ((x4_2.length : Int) : Int) := of_decide_eq_true (by assumption); first | exact h_ | (have e_ := (Kd.S_reads' HO_4.out).1; omega) | simpa only [List.length_set, List.length_set] using h_)
               obtain ⟨oki19, ce19, hcl19, hM19, hcc19, hok19, hbk19⟩ := Kd.S_borrow HO_4.out [] (x14_1 : Int) (of_decide_eq_true (by assumption)) (by first | exact hq19 | (have e_ := (Kd.S_reads' HO_4.out).1; omega))
               obtain ⟨ve19_0, rfl, ge19_0⟩ := hM19
               have hv19 := hcc19 0 _ rfl
               rw [Nat.add_zero, show ((Kd.slice 3 (Kd.int .i64))).sz = 1 from rfl, Nat.mul_one] at hv19
               replace hv19 := Option.some.inj (hv19.symm.trans HX249_0.out)
               subst hv19
               clear hcc19 hcl19
               replace ge19_0 := (show Kd.R (Kd.int .i64) 3 _ _ _ _ (rd_L1 x4_2 x14_1) from ge19_0)
               have HP19 := Kd.R_putg ge19_0 (x19_2 : Int) (wrap64 (Int.tdiv (wrap64 ((wrap64 ((wrap64 (x14_1 + x19_2)) + 2)) - (rd (rd_L1 l0 (ji9)) (ji12)))) 2))
               rw [← Ny252.out] at HP19
               have HS19 := hbk19 HP19.2 (fun k_ e_ => by injection e_ with e_; subst e_; exact ge19_0.1 _ rfl) (x' := y252) (Kd.M_row HP19.1)
               rw [← Ny254.out] at HS19
               have HQ19 := Aside0.mk HS19
               clear HP19 HS19 hbk19 hok19
               refine start_ (n := 22) (S := fun w' => w'.cell? (ad249.add (x14_1).toNat) = some (.slice (some ⟨go17, 0, none⟩) (rd_L1 x4_2 x14_1).length c249_0) ∧ w'.cell? (ad250.add ((ji9)).toNat) = some (.slice (some ad251) (rd_L1 l0 (ji9)).length c250_0) ∧ w'.cell? (ad251.add ((ji12)).toNat) = some (.int .i64 (rd (rd_L1 l0 (ji9)) (ji12)))) (ds := [21]) #[false, false, false, false, false, false, false, false, false, false, false, false, false, false, false, false, false, false, false, false, false, false] (by kernel_rfl) rfl rfl ⟨hx249_0, ((HB.out.cell (World.block_lt_of_cell? w _ hw250_0)).trans hw250_0), ((HB.out.cell (World.block_lt_of_cell? w _ hw251_0)).trans hw251_0)⟩ (fun hHeld => ?_); refine with_tabW spec_heFrom.tab9 spec_heFrom.bits9 (fun HT_ HW_ => ?_)
               generalize wr.drew = w18 at HO_4 HB GG17 HL249_0 HQ19 HR249_0 HR250_0 HX249_0 hf17_0 hx17_0 hx249_0 hx250_0 hx251_0 hHeld ⊢
               refine pure_ (i := 0) (N := some 22) (v := ?_) (a' := ?_) #[true, false, false, false, false, false, false, false, false, false, false, false, false, false, false, false, false, false, false, false, false, false] rfl rfl (any_of HT_.out (by kernel_rfl)) (fun _ _ _ h => h) (Or.inl ⟨by rfl, ?_⟩) ?_ ?_
               rotate_left
               ·intro w'
                go_simp
                with_reducible rfl
               rotate_left
               ·simp only [Act.put, List.setIfInBounds_toArray, List.set_cons_zero, List.set_cons_succ, i64_w, i32_w]
                rfl
               refine pure_ (i := 1) (N := some 23) (v := ?_) (a' := ?_) #[true, true, false, false, false, false, false, false, false, false, false, false, false, false, false, false, false, false, false, false, false, false] rfl rfl (any_of HT_.out (by kernel_rfl)) (fun _ _ _ h => h) (Or.inl ⟨by rfl, ?_⟩) ?_ ?_
               rotate_left
               ·intro w'
                go_simp
                with_reducible rfl
               rotate_left
               ·simp only [Act.put, List.setIfInBounds_toArray, List.set_cons_zero, List.set_cons_succ, i64_w, i32_w]
                rfl
               refine pure_ (i := 2) (N := some 24) (v := ?_) (a' := ?_) #[true, true, true, false, false, false, false, false, false, false, false, false, false, false, false, false, false, false, false, false, false, false] rfl rfl (any_of HT_.out (by kernel_rfl)) (fun _ _ _ h => h) (Or.inl ⟨by rfl, ?_⟩) ?_ ?_
               rotate_left
               ·intro w'
                go_simp
                with_reducible rfl
               rotate_left
               ·simp only [Act.put, List.setIfInBounds_toArray, List.set_cons_zero, List.set_cons_succ, i64_w, i32_w]
                rfl
               refine pure_ (i := 4) (N := some 26) (v := ?_) (a' := ?_) #[true, true, true, false, true, false, false, false, false, false, false, false, false, false, false, false, false, false, false, false, false, false] rfl rfl (any_of HT_.out (by kernel_rfl)) (fun _ _ _ h => h) (Or.inl ⟨by rfl, ?_⟩) ?_ ?_
               rotate_left
               ·intro w'
                go_simp
                with_reducible rfl
               rotate_left
               ·simp only [Act.put, List.setIfInBounds_toArray, List.set_cons_zero, List.set_cons_succ, i64_w, i32_w]
                rfl
               refine pure_ (i := 5) (N := some 27) (v := ?_) (a' := ?_) #[true, true, true, false, true, true, false, false, false, false, false, false, false, false, false, false, false, false, false, false, false, false] rfl rfl (any_of HT_.out (by kernel_rfl)) (fun _ _ _ h => h) (Or.inl ⟨by rfl, ?_⟩) ?_ ?_
               rotate_left
               ·intro w'
                go_simp
                with_reducible rfl
               rotate_left
               ·simp only [Act.put, List.setIfInBounds_toArray, List.set_cons_zero, List.set_cons_succ, i64_w, i32_w]
                rfl
               refine pure_ (i := 6) (N := some 28) (v := ?_) (a' := ?_) #[true, true, true, false, true, true, true, false, false, false, false, false, false, false, false, false, false, false, false, false, false, false] rfl rfl (any_of HT_.out (by kernel_rfl)) (fun _ _ _ h => h) (Or.inl ⟨by rfl, ?_⟩) ?_ ?_
               rotate_left
               ·intro w'
                go_simp
                with_reducible rfl
               rotate_left
               ·simp only [Act.put, List.setIfInBounds_toArray, List.set_cons_zero, List.set_cons_succ, i64_w, i32_w]
                rfl
               refine pure_ (i := 7) (N := some 29) (v := ?_) (a' := ?_) #[true, true, true, false, true, true, true, true, false, false, false, false, false, false, false, false, false, false, false, false, false, false] rfl rfl (any_of HT_.out (by kernel_rfl)) (fun _ _ _ h => h) (Or.inl ⟨by rfl, ?_⟩) ?_ ?_
               rotate_left
               ·intro w'
                go_simp
                with_reducible rfl
               rotate_left
               ·simp only [Act.put, List.setIfInBounds_toArray, List.set_cons_zero, List.set_cons_succ, i64_w, i32_w]
                rfl
               refine pure_ (i := 8) (N := some 30) (v := ?_) (a' := ?_) #[true, true, true, false, true, true, true, true, true, false, false, false, false, false, false, false, false, false, false, false, false, false] rfl rfl (any_of HT_.out (by kernel_rfl)) (fun _ _ _ h => h) (Or.inl ⟨by rfl, ?_⟩) ?_ ?_
               rotate_left
               ·intro w'
                go_simp
                with_reducible rfl
               rotate_left
               ·simp only [Act.put, List.setIfInBounds_toArray, List.set_cons_zero, List.set_cons_succ, i64_w, i32_w]
                rfl
               refine pure_ (i := 9) (N := some 31) (v := ?_) (a' := ?_) #[true, true, true, false, true, true, true, true, true, true, false, false, false, false, false, false, false, false, false, false, false, false] rfl rfl (any_of HT_.out (by kernel_rfl)) (fun _ _ _ h => h) (Or.inl ⟨by rfl, ?_⟩) ?_ ?_
               rotate_left
               ·intro w'
                go_simp
                with_reducible rfl
               rotate_left
               ·simp only [Act.put, List.setIfInBounds_toArray, List.set_cons_zero, List.set_cons_succ, i64_w, i32_w]
                rfl
               refine pure_ (i := 10) (N := some 32) (v := ?_) (a' := ?_) #[true, true, true, false, true, true, true, true, true, true, true, false, false, false, false, false, false, false, false, false, false, false] rfl rfl (any_of HT_.out (by kernel_rfl)) (fun _ _ _ h => h) (Or.inl ⟨by rfl, ?_⟩) ?_ ?_
               rotate_left
               ·intro w'
                go_simp
                with_reducible rfl
               rotate_left
               ·simp only [Act.put, List.setIfInBounds_toArray, List.set_cons_zero, List.set_cons_succ, i64_w, i32_w]
                rfl
               refine pure_ (i := 11) (N := some 33) (v := ?_) (a' := ?_) #[true, true, true, false, true, true, true, true, true, true, true, true, false, false, false, false, false, false, false, false, false, false] rfl rfl (any_of HT_.out (by kernel_rfl)) (fun _ _ _ h => h) (Or.inl ⟨by rfl, ?_⟩) ?_ ?_
               rotate_left
               ·intro w'
                go_simp
                with_reducible rfl
               rotate_left
               ·simp only [Act.put, List.setIfInBounds_toArray, List.set_cons_zero, List.set_cons_succ, i64_w, i32_w]
                rfl
               refine pure_ (i := 12) (N := some 34) (v := ?_) (a' := ?_) #[true, true, true, false, true, true, true, true, true, true, true, true, true, false, false, false, false, false, false, false, false, false] rfl rfl (any_of HT_.out (by kernel_rfl)) (fun _ _ _ h => h) (Or.inl ⟨by rfl, ?_⟩) ?_ ?_
               rotate_left
               ·intro w'
                go_simp
                with_reducible rfl
               rotate_left
               ·simp only [Act.put, List.setIfInBounds_toArray, List.set_cons_zero, List.set_cons_succ, i64_w, i32_w]
                rfl
               refine pure_ (i := 14) (N := some 36) (v := ?_) (a' := ?_) #[true, true, true, false, true, true, true, true, true, true, true, true, true, false, true, false, false, false, false, false, false, false] rfl rfl (any_of HT_.out (by kernel_rfl)) (fun _ _ _ h => h) (Or.inl ⟨by rfl, ?_⟩) ?_ ?_
               rotate_left
               ·intro w'
                go_simp
                with_reducible rfl
               rotate_left
               ·simp only [Act.put, List.setIfInBounds_toArray, List.set_cons_zero, List.set_cons_succ, i64_w, i32_w]
                rfl
               refine pure_ (i := 15) (N := some 37) (v := ?_) (a' := ?_) #[true, true, true, false, true, true, true, true, true, true, true, true, true, false, true, true, false, false, false, false, false, false] rfl rfl (any_of HT_.out (by kernel_rfl)) (fun _ _ _ h => h) (Or.inl ⟨by rfl, ?_⟩) ?_ ?_
               rotate_left
               ·intro w'
                go_simp
                with_reducible rfl
               rotate_left
               ·simp only [Act.put, List.setIfInBounds_toArray, List.set_cons_zero, List.set_cons_succ, i64_w, i32_w]
                rfl
               refine take_ (i := 3) (N := some 25) (v := ?_) (a' := ?_) #[true, true, true, true, true, true, true, true, true, true, true, true, true, false, true, true, false, false, false, false, false, false] rfl rfl (take_ofW HT_.out HW_.out (by kernel_rfl)) (fun _ _ _ h => h) (Or.inl ⟨by rfl, ?_⟩) hHeld ?_ ?_
               rotate_left
               ·rintro w' ⟨s0, s1, s2⟩
                go_simp
                with_reducible rfl
               rotate_left
               ·simp only [Act.put, List.setIfInBounds_toArray, List.set_cons_zero, List.set_cons_succ, i64_w, i32_w]
                rfl
               refine take_ (i := 13) (N := some 35) (v := ?_) (a' := ?_) #[true, true, true, true, true, true, true, true, true, true, true, true, true, true, true, true, false, false, false, false, false, false] rfl rfl (take_ofW HT_.out HW_.out (by kernel_rfl)) (fun _ _ _ h => h) (Or.inl ⟨by rfl, ?_⟩) hHeld ?_ ?_
               rotate_left
               ·rintro w' ⟨s0, s1, s2⟩
                go_simp
                with_reducible rfl
               rotate_left
               ·simp only [Act.put, List.setIfInBounds_toArray, List.set_cons_zero, List.set_cons_succ, i64_w, i32_w]
                rfl
               refine pure_ (i := 16) (N := some 38) (v := ?_) (a' := ?_) #[true, true, true, true, true, true, true, true, true, true, true, true, true, true, true, true, true, false, false, false, false, false] rfl rfl (any_of HT_.out (by kernel_rfl)) (fun _ _ _ h => h) (Or.inl ⟨by rfl, ?_⟩) ?_ ?_
               rotate_left
               ·intro w'
                go_simp
                with_reducible rfl
               rotate_left
               ·simp only [Act.put, List.setIfInBounds_toArray, List.set_cons_zero, List.set_cons_succ, i64_w, i32_w]
                rfl
               refine take_ (i := 17) (N := some 39) (v := ?_) (a' := ?_) #[true, true, true, true, true, true, true, true, true, true, true, true, true, true, true, true, true, true, false, false, false, false] rfl rfl (take_ofW HT_.out HW_.out (by kernel_rfl)) (fun _ _ _ h => h) (Or.inl ⟨by rfl, ?_⟩) hHeld ?_ ?_
               rotate_left
               ·rintro w' ⟨s0, s1, s2⟩
                go_simp
                with_reducible rfl
               rotate_left
               ·simp only [Act.put, List.setIfInBounds_toArray, List.set_cons_zero, List.set_cons_succ, i64_w, i32_w]
                rfl
               refine pure_ (i := 18) (N := some 40) (v := ?_) (a' := ?_) #[true, true, true, true, true, true, true, true, true, true, true, true, true, true, true, true, true, true, true, false, false, false] rfl rfl (any_of HT_.out (by kernel_rfl)) (fun _ _ _ h => h) (Or.inl ⟨by rfl, ?_⟩) ?_ ?_
               rotate_left
               ·intro w'
                go_simp
                with_reducible rfl
               rotate_left
               ·simp only [Act.put, List.setIfInBounds_toArray, List.set_cons_zero, List.set_cons_succ, i64_w, i32_w]
                rfl
               refine pure_ (i := 19) (N := some 41) (v := ?_) (a' := ?_) #[true, true, true, true, true, true, true, true, true, true, true, true, true, true, true, true, true, true, true, true, false, false] rfl rfl (any_of HT_.out (by kernel_rfl)) (fun _ _ _ h => h) (Or.inl ⟨by rfl, ?_⟩) ?_ ?_
               rotate_left
               ·intro w'
                go_simp
                with_reducible rfl
               rotate_left
               ·simp only [Act.put, List.setIfInBounds_toArray, List.set_cons_zero, List.set_cons_succ, i64_w, i32_w]
                rfl
               refine pure_ (i := 20) (N := some 42) (v := ?_) (a' := ?_) #[true, true, true, true, true, true, true, true, true, true, true, true, true, true, true, true, true, true, true, true, true, false] rfl rfl (any_of HT_.out (by kernel_rfl)) (fun _ _ _ h => h) (Or.inl ⟨by rfl, ?_⟩) ?_ ?_
               rotate_left
               ·intro w'
                go_simp
                with_reducible rfl
               rotate_left
               ·simp only [Act.put, List.setIfInBounds_toArray, List.set_cons_zero, List.set_cons_succ, i64_w, i32_w]
                rfl
               refine last_ (i := 21) (N := none) #[true, true, true, true, true, true, true, true, true, true, true, true, true, true, true, true, true, true, true, true, true, true] rfl rfl (one_of HT_.out (by kernel_rfl)) (by decide) (fun K hK => ?_)
               refine skip_ (w1 := ?_) (by rfl) rfl ?_ ?_
               rotate_left
               ·go_simp
                rfl
               refine hK.out _ _ ?_
               clear hK K
               refine done_ (done_of HT_.out (by kernel_rfl)) ?_
               try go_wp2
               (try simp only [← hl4_2])
               go_roundg k2
               case measure => have := HK1.out; have := HK2.out; omega
               case rel => exact ⟨(y254), (ji12), (by first | rfl | (simp; done) | (simp only [← hji12] <;> (first | rfl | simp)) | (simp [*]; done)), H', ⟨by have := HK1.out; have := HK2.out; omega⟩, ⟨by (try simp only [hl4_1]); (try simp only [hl4_2]); (with_reducible repeat (first | apply Kd.S_alloc | apply Kd.S_drewN | apply Kd.S_drew)); exact HQ19.out⟩, ⟨by repeat (first | (with_reducible first | exact HB.out | apply below_alloc | apply pw_below_drewN | apply below_drew1 | refine below_set ?_ GB17.out) | exact HB.out)⟩⟩
              ·rw [if_neg c16] at H
               exact absurd H (by simp)
             ·rw [if_neg c15] at H
              exact absurd H (by simp)
            ·rw [if_neg c14] at H
             exact absurd H (by simp)
           ·rw [if_neg c13] at H
            exact absurd H (by simp)
          ·rw [if_neg c11] at H
           exact absurd H (by simp)
         ·rw [if_neg c10] at H
          exact absurd H (by simp)
        ·rw [if_neg c8] at H
         exact absurd H (by simp)
       ·rw [if_neg c7] at H
        exact absurd H (by simp)
      ·rw [if_neg c6] at H
       have c6b0 : decide (x19_2 < (x4_1.length : Int)) = false := decide_eq_false c6
       (try have c6b0_ : decide (x19_2 < (x4_2.length : Int)) = false := by rw [← hl4_2]; exact c6b0)
       clear c6
       have H' := Aside0.mk H
       clear H
       go_wp2
       (try simp only [← hl4_1, ← hl4_2])
       go_roundg k2
       case measure => have := HK1.out; have := HK2.out; omega
       case rel => exact ⟨(x4_2), (wrap64 (x14_1 + 1)), (by first | rfl | (simp; done) | (simp [*]; done)), H', ⟨by have := HK1.out; have := HK2.out; omega⟩, ⟨by (try simp only [hl4_1]); (try simp only [hl4_2]); (with_reducible repeat (first | apply Kd.S_alloc | apply Kd.S_drewN | apply Kd.S_drew)); exact HO_4.out⟩, ⟨by repeat (first | (with_reducible first | exact HB.out | apply below_alloc | apply pw_below_drewN | apply below_drew1) | exact HB.out)⟩⟩
   ·rw [if_neg c5] at H
    have c5b0 : decide (x14_1 < (t243.length : Int)) = false := decide_eq_false c5
    (try have c5b0_ : decide (x14_1 < (x4_1.length : Int)) = false := by rw [← hl4_1]; exact c5b0)
    clear c5
    replace H := Option.bind_eq_some_iff.mp H
    obtain ⟨t246, A210, H⟩ := H
    replace H : (some t246) = some r := H
    have A21 := Aside0.mk A210
    clear A210
    obtain rfl := Option.some.inj H
    go_wp2_with (first | ((with_reducible refine gate_callee (f := 113) rfl ?_); refine goesL_ (some 46) rfl rfl Try.func113 (by kernel_rfl) rfl #[.slice Ao4 x4_1.length co4] rfl (by (try simp only [List.map_toArray, List.map_cons, List.map_nil]); first | done | rfl | (simp only [List.length_drop, List.length_take]; rfl)) ?_; (with_reducible refine (spec_sgFrom.calls k1 _ _ x4_1 t246 _ ?side1 ?side2 A21.out).mono ?_); (case side1 => repeat (first | exact (Kd.S_reads' HO_4.out).2.2 | (with_reducible refine Kd.C_alloc ?_ _) | (with_reducible refine Kd.C_drewN ?_ _) | (with_reducible refine Kd.C_drew ?_))); (case side2 => exact (Kd.S_reads' HO_4.out).2.1); rintro e w22 ⟨v247, rfl, ho0, hb⟩; refine ⟨_, rfl, ?_⟩; have n0_ := Aside0.mk (Kd.S_elder' (by (with_reducible repeat (first | apply Kd.S_alloc | apply Kd.S_drewN | apply Kd.S_drew)); exact HO_4.out) (Kd.S_base ho0) hb); have n1_ := Aside0.mk (Kd.S_lower (Kd.S_new' ho0 (Kd.S_lt (by (with_reducible repeat (first | apply Kd.S_alloc | apply Kd.S_drewN | apply Kd.S_drew)); exact HO_4.out))) (below_size (by repeat (first | (with_reducible first | exact HB.out | apply below_alloc | apply pw_below_drewN | apply below_drew1) | exact HB.out)))); have n2_ := Aside0.mk (below_step (by repeat (first | (with_reducible first | exact HB.out | apply below_alloc | apply pw_below_drewN | apply below_drew1) | exact HB.out)) hb); clear HO_4; clear HB; have HO_4 := n0_; have HO248 := n1_; have HB := n2_; clear n0_ n1_ n2_; (try clear hb); (try clear hb2); (try clear hk); (try clear hi); (try clear ho0)))
    go_ret
    exact ⟨_, by first | rfl | (simp [errW_none, errW_some] <;> rfl) | (simp [*, errW_none, errW_some] <;> rfl), by (with_reducible repeat (first | apply Kd.S_alloc | apply Kd.S_drewN | apply Kd.S_drew)); exact Kd.S_mono HO248.out (fun _ hk => trivial), by repeat (first | (with_reducible first | exact HB.out | apply below_alloc | apply pw_below_drewN | apply below_drew1) | exact HB.out)⟩

end Go.Proofs.Ytflhhbpgkjpbdaa.P
