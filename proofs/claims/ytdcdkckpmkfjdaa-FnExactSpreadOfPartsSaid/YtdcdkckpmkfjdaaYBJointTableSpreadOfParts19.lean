/- Texts of one chain, in build order. -/
import Derived.Test.YtdcdkckpmkfjdaaYBJointTableSpreadOfParts18
import Derived.Test.YtdcdkckpmkfjdaaWMore
namespace Go.Proofs.Ytdcdkckpmkfjdaa.P
open Go.RowKit Go.Proofs.YtdcdkckpmkfjdaaW.PrintWords Go.Proofs.YtdcdkckpmkfjdaaW.PrintLast Go.Proofs.YtdcdkckpmkfjdaaW.PrintMore
attribute [local go_sem] max2_int min2_int max_two min_two max_three min_three max_four min_four   -- for this text's walks alone
set_option linter.unusedVariables false
set_option linter.unusedSimpArgs false

mutual
def impl_inversions.l0 : Nat → List (List Int) → Int → List (List Int) → Int → Int → Option (Int)
 | 0, _, _, _, _, _ => none
 | k + 1, x0, x3, x10, x11, x12 => if x12 < x11 then (if 0 ≤ x12 then (if x12 < (x10.length : Int) then (impl_inversions.l1 k x0 x3 x12 x10 x11 x12 (rd_L1 x10 x12) ((rd_L1 x10 x12).length : Int) 0) else (none)) else (none)) else (some x3)
def impl_inversions.l1 : Nat → List (List Int) → Int → Int → List (List Int) → Int → Int → List Int → Int → Int → Option (Int)
 | 0, _, _, _, _, _, _, _, _, _ => none
 | k + 1, x0, x3, x4, x10, x11, x12, x17, x18, x19 => if x19 < x18 then (if 0 ≤ x19 then (if x19 < (x17.length : Int) then (if 0 ≤ (wrap64 (x4 + 1)) then (if (wrap64 (x4 + 1)) ≤ (x0.length : Int) then ((some (x0.drop ((wrap64 (x4 + 1)) : Int).toNat : List (List Int))).bind fun y225 => (impl_inversions.l2 k x0 x3 x4 x19 (rd x17 x19) x10 x11 x12 x17 x18 x19 y225 (y225.length : Int) 0)) else (none)) else (none)) else (none)) else (none)) else (impl_inversions.l0 k x0 x3 x10 x11 (wrap64 (x12 + 1)))
def impl_inversions.l2 : Nat → List (List Int) → Int → Int → Int → Int → List (List Int) → Int → Int → List Int → Int → Int → List (List Int) → Int → Int → Option (Int)
 | 0, _, _, _, _, _, _, _, _, _, _, _, _, _, _ => none
 | k + 1, x0, x3, x4, x6, x7, x10, x11, x12, x17, x18, x19, x27, x28, x29 => if x29 < x28 then (if 0 ≤ x29 then (if x29 < (x27.length : Int) then (if 0 ≤ x6 then (if x6 ≤ ((rd_L1 x27 x29).length : Int) then ((impl_sum.f k ((rd_L1 x27 x29).take (x6 : Int).toNat)).bind fun t231 => (impl_inversions.l2 k x0 (wrap64 (x3 + (wrap64 (x7 * t231)))) x4 x6 x7 x10 x11 x12 x17 x18 x19 x27 x28 (wrap64 (x29 + 1)))) else (none)) else (none)) else (none)) else (none)) else (impl_inversions.l1 k x0 x3 x4 x10 x11 x12 x17 x18 (wrap64 (x19 + 1)))
end
def impl_inversions.f (k : Nat) (l0 : List (List Int)) : Option (Int) := impl_inversions.l0 k l0 0 l0 (l0.length : Int) 0
set_option maxHeartbeats 8000000 in
set_option maxRecDepth 100000 in
theorem impl_inversions.calls (k : Nat) (A0 : Option Addr) (c0 : Nat) (l0 : List (List Int)) (r : Int) (w : World) (hr0 : Kd.C (Kd.slice 3 (Kd.int .i64)) w A0 l0.length l0) (hc0 : l0.length ≤ c0) (h : impl_inversions.f k l0 = some r) :
  Calls Try.prog 65 #[.slice A0 l0.length c0] w fun e w' => e = .returned (.int .i64 r) ∧ Drawn0 w w' := by
 have HR0 := Aside0.mk hr0
 have HC0 := Aside0.mk hc0
 clear hr0 hc0
 have H : (impl_inversions.l0 k l0 0 l0 (l0.length : Int) 0) = some r := h
 clear h
 have H' := Aside0.mk H
 clear H
 go_enter Try.func65, Try.ntmps65
 go_wp2
 go_loopg [3, 12] k (fun kq v3 v12 w' => ∃ (x3_1 : Int) (x12_1 : Int), v3 = .int .i64 x3_1 ∧ v12 = .int .i64 x12_1 ∧ Aside0 (impl_inversions.l0 kq l0 x3_1 l0 (l0.length : Int) x12_1 = some r) ∧ Aside0 (kq ≤ k) ∧ Drawn0 w w')
 case atStart => exact ⟨(0), (0), (by first | rfl | (simp; done) | (simp [*]; done)), (by first | rfl | (simp; done) | (simp [*]; done)), H', ⟨Nat.le_refl _⟩, by repeat (first | exact Drawn0.refl _ | apply Drawn0.step)⟩
 case round =>
  clear H'
  obtain ⟨x3_1, x12_1, rfl, rfl, HA, HK1, ⟨m1, rfl⟩⟩ := hrel
  cases gk with
  | zero => exact absurd HA.out (by simp [impl_inversions.l0])
  | succ k1 =>
   have H := HA.out
   clear HA
   simp only [impl_inversions.l0] at H
   by_cases c2 : x12_1 < (l0.length : Int)
   ·rw [if_pos c2] at H
    have c2b0 : decide (x12_1 < (l0.length : Int)) = true := decide_eq_true c2
    clear c2
    by_cases c3 : 0 ≤ x12_1
    ·rw [if_pos c3] at H
     have c3b0 : decide (0 ≤ x12_1) = true := decide_eq_true c3
     clear c3
     by_cases c4 : x12_1 < (l0.length : Int)
     ·rw [if_pos c4] at H
      have c4b0 : decide (x12_1 < (l0.length : Int)) = true := decide_eq_true c4
      clear c4
      have H' := Aside0.mk H
      clear H
      have p223 : 0 ≤ (x12_1 : Int) := of_decide_eq_true (by first | (with_reducible assumption) | assumption)
      have q223 : x12_1 < (l0.length : Int) := of_decide_eq_true (by first | (with_reducible assumption) | assumption)
      obtain ⟨ad223, A223_0, c223_0, e223, hx223_0, hl223_0, hi223_0⟩ := at_L1 HR0.out x12_1 p223 q223
      cases e223
      have HR223_0 := Aside0.mk hi223_0
      have HC223_0 := Aside0.mk hl223_0
      clear hi223_0 hl223_0
      replace p223 := eq_true p223
      replace q223 := eq_true q223
      go_wp2
      go_loopg [3, 19] k1 (fun kq v3 v19 w' => ∃ (x3_2 : Int) (x19_2 : Int), v3 = .int .i64 x3_2 ∧ v19 = .int .i64 x19_2 ∧ Aside0 (impl_inversions.l1 kq l0 x3_2 x12_1 l0 (l0.length : Int) x12_1 (rd_L1 l0 x12_1) ((rd_L1 l0 x12_1).length : Int) x19_2 = some r) ∧ Aside0 (kq ≤ k1) ∧ Drawn0 w w')
      case atStart => exact ⟨(x3_1), (0), (by first | rfl | (simp; done) | (simp [*]; done)), (by first | rfl | (simp; done) | (simp [*]; done)), H', ⟨Nat.le_refl _⟩, by repeat (first | exact Drawn0.refl _ | apply Drawn0.step)⟩
      case round =>
       clear H'
       try clear c2
       try clear c2b0
       try clear p2
       try clear q2
       try clear hx2
       try clear c3
       try clear c3b0
       try clear c4
       try clear c4b0
       try clear hx223_0
       try clear p223
       try clear q223
       obtain ⟨x3_2, x19_2, rfl, rfl, HA, HK2, ⟨m2, rfl⟩⟩ := hrel
       cases gk with
       | zero => exact absurd HA.out (by simp [impl_inversions.l1])
       | succ k2 =>
        have H := HA.out
        clear HA
        simp only [impl_inversions.l1] at H
        by_cases c5 : x19_2 < ((rd_L1 l0 x12_1).length : Int)
        ·rw [if_pos c5] at H
         have c5b0 : decide (x19_2 < ((rd_L1 l0 x12_1).length : Int)) = true := decide_eq_true c5
         clear c5
         by_cases c6 : 0 ≤ x19_2
         ·rw [if_pos c6] at H
          have c6b0 : decide (0 ≤ x19_2) = true := decide_eq_true c6
          clear c6
          by_cases c7 : x19_2 < ((rd_L1 l0 x12_1).length : Int)
          ·rw [if_pos c7] at H
           have c7b0 : decide (x19_2 < ((rd_L1 l0 x12_1).length : Int)) = true := decide_eq_true c7
           clear c7
           obtain ⟨ji8, hji8⟩ : ∃ j_ : Int, (wrap64 (x12_1 + 1)) = j_ := ⟨_, rfl⟩
           replace H : (if 0 ≤ (ji8) then (if (ji8) ≤ (l0.length : Int) then ((some (l0.drop ((ji8) : Int).toNat : List (List Int))).bind fun y225 => (impl_inversions.l2 k2 l0 x3_2 x12_1 x19_2 (rd (rd_L1 l0 x12_1) x19_2) l0 (l0.length : Int) x12_1 (rd_L1 l0 x12_1) ((rd_L1 l0 x12_1).length : Int) x19_2 y225 (y225.length : Int) 0)) else (none)) else (none)) = some r := by first | (rw [hji8] at H; exact H) | (simp only [hji8] at H ⊢; exact H)
           have hji8w : (IntKind.i64.wrap (x12_1 + 1)) = ji8 := (i64_w _).trans hji8
           by_cases c9 : 0 ≤ (ji8)
           ·rw [if_pos c9] at H
            have c9b0 := eq_true c9
            have c9b1 : decide (0 ≤ (ji8)) = true := decide_eq_true c9
            clear c9
            by_cases c10 : (ji8) ≤ (l0.length : Int)
            ·rw [if_pos c10] at H
             have c10b0 := eq_true c10
             have c10b1 : decide ((ji8) ≤ (l0.length : Int)) = true := decide_eq_true c10
             clear c10
             obtain ⟨y225, hy225⟩ : ∃ y_ : List (List Int), y_ = (l0.drop ((ji8) : Int).toNat) := ⟨_, rfl⟩
             replace H : (impl_inversions.l2 k2 l0 x3_2 x12_1 x19_2 (rd (rd_L1 l0 x12_1) x19_2) l0 (l0.length : Int) x12_1 (rd_L1 l0 x12_1) ((rd_L1 l0 x12_1).length : Int) x19_2 y225 (y225.length : Int) 0) = some r := by first | (rw [hy225]; with_reducible exact H) | (have H2_ := (Option.bind_some _ _).symm.trans H; rw [hy225]; with_reducible exact H2_) | (have H2_ := (Option.bind_some _ _).symm.trans H; with_reducible exact H2_) | with_reducible exact H | (rw [hy225]; exact H) | exact H
             have Ny225 := Aside0.mk hy225
             clear hy225
             have H' := Aside0.mk H
             clear H
             have p224 : 0 ≤ (x19_2 : Int) := of_decide_eq_true (by first | (with_reducible assumption) | assumption)
             have q224 : x19_2 < ((rd_L1 l0 x12_1).length : Int) := of_decide_eq_true (by first | (with_reducible assumption) | assumption)
             obtain ⟨ad224, e224, hx224_0⟩ := Kd.at_int HR223_0.out x19_2 p224 q224
             cases e224
             replace p224 := eq_true p224
             replace q224 := eq_true q224
             have q11 : ((ji8) : Int) ≤ ((l0.length : Int) : Int) := of_decide_eq_true (by first | (with_reducible assumption) | assumption)
             obtain ⟨i011, hi011, _, hsz11, _⟩ := info_parts info22
             have hroom11 : l0.length ≤ c0 := HC0.out
             have hC11 : Kd.C (Kd.slice 3 (Kd.int .i64)) _ (some ad223) l0.length l0 := HR0.out
             have q011 : (0 : Int) ≤ ((ji8) : Int) := of_decide_eq_true (by first | (with_reducible assumption) | assumption)
             have hcut11 := cut_from (P := Try.prog) 36 22 .i64 Try.underlying36 hi011 1 hsz11 (some ad223) l0.length c0 (ji8) q011 q11
             have hr11 := Kd.C_drop (m := ((ji8) : Int).toNat) (c := c0) hC11 (by omega) hroom11
             obtain ⟨A11, hA11⟩ : ∃ A1, A1 = (if c0 = ((ji8) : Int).toNat then (some ad223) else ((some ad223) : Option Addr).map (·.add (((ji8) : Int).toNat * 1))) := ⟨_, rfl⟩
             obtain ⟨c11, hc11⟩ : ∃ c1, c1 = c0 - ((ji8) : Int).toNat := ⟨_, rfl⟩
             have hy11 : y225.length = l0.length - ((ji8) : Int).toNat := (by rw [Ny225.out, List.length_drop] <;> omega)
             rw [show (l0).drop ((ji8) : Int).toNat = y225 from Ny225.out.symm] at hr11
             replace hr11 : Kd.C (Kd.slice 3 (Kd.int .i64)) _ A11 y225.length y225 := (by rw [hA11]; exact hr11)
             rw [← hy11, ← hA11, ← hc11] at hcut11
             have HR228 := Aside0.mk hr11
             have HC228 := Aside0.mk (show y225.length ≤ c11 from by rw [hy11, hc11]; exact Nat.sub_le_sub_right hroom11 _)
             clear hr11 hC11 hroom11 hi011 hsz11 hc11
             have KY11 := Aside0.mk hy11
             have KA11 := Aside0.mk hA11
             clear hy11 hA11
             replace q11 := eq_true q11
             go_wp2
             go_loopg [3, 29] k2 (fun kq v3 v29 w' => ∃ (x3_3 : Int) (x29_3 : Int), v3 = .int .i64 x3_3 ∧ v29 = .int .i64 x29_3 ∧ Aside0 (impl_inversions.l2 kq l0 x3_3 x12_1 x19_2 (rd (rd_L1 l0 x12_1) x19_2) l0 (l0.length : Int) x12_1 (rd_L1 l0 x12_1) ((rd_L1 l0 x12_1).length : Int) x19_2 y225 (y225.length : Int) x29_3 = some r) ∧ Aside0 (kq ≤ k2) ∧ Drawn0 w w')
             case atStart => exact ⟨(x3_2), (0), (by first | rfl | (simp; done) | (simp [*]; done)), (by first | rfl | (simp; done) | (simp [*]; done)), H', ⟨Nat.le_refl _⟩, by repeat (first | exact Drawn0.refl _ | apply Drawn0.step)⟩
             case round =>
              clear H'
              try clear c1
              try clear q1
              try clear c2
              try clear c2b0
              try clear p2
              try clear q2
              try clear hx2
              try clear c3
              try clear c3b0
              try clear c4
              try clear c4b0
              try clear c5
              try clear c5b0
              try clear c6
              try clear c6b0
              try clear p6
              try clear c7
              try clear c7b0
              try clear c9
              try clear c9b0
              try clear c9b1
              try clear c10
              try clear c10b0
              try clear c10b1
              try clear c11
              try clear q11
              try clear hx223_0
              try clear hx224_0
              try clear p2
              try clear p223
              try clear p224
              try clear q011
              try clear q11
              try clear q2
              try clear q223
              try clear q224
              obtain ⟨x3_3, x29_3, rfl, rfl, HA, HK3, ⟨m3, rfl⟩⟩ := hrel
              cases gk with
              | zero => exact absurd HA.out (by simp [impl_inversions.l2])
              | succ k3 =>
               have H := HA.out
               clear HA
               simp only [impl_inversions.l2] at H
               by_cases c12 : x29_3 < (y225.length : Int)
               ·rw [if_pos c12] at H
                have c12b0 : decide (x29_3 < (y225.length : Int)) = true := decide_eq_true c12
                clear c12
                by_cases c13 : 0 ≤ x29_3
                ·rw [if_pos c13] at H
                 have c13b0 : decide (0 ≤ x29_3) = true := decide_eq_true c13
                 clear c13
                 by_cases c14 : x29_3 < (y225.length : Int)
                 ·rw [if_pos c14] at H
                  have c14b0 : decide (x29_3 < (y225.length : Int)) = true := decide_eq_true c14
                  clear c14
                  by_cases c15 : 0 ≤ x19_2
                  ·rw [if_pos c15] at H
                   have c15b0 := eq_true c15
                   have c15b1 : decide (0 ≤ x19_2) = true := decide_eq_true c15
                   clear c15
                   by_cases c16 : x19_2 ≤ ((rd_L1 y225 x29_3).length : Int)
                   ·rw [if_pos c16] at H
                    have c16b0 := eq_true c16
                    have c16b1 : decide (x19_2 ≤ ((rd_L1 y225 x29_3).length : Int)) = true := decide_eq_true c16
                    clear c16
                    replace H := Option.bind_eq_some_iff.mp H
                    obtain ⟨t231, A170, H⟩ := H
                    replace H : (impl_inversions.l2 k3 l0 (wrap64 (x3_3 + (wrap64 ((rd (rd_L1 l0 x12_1) x19_2) * t231)))) x12_1 x19_2 (rd (rd_L1 l0 x12_1) x19_2) l0 (l0.length : Int) x12_1 (rd_L1 l0 x12_1) ((rd_L1 l0 x12_1).length : Int) x19_2 y225 (y225.length : Int) (wrap64 (x29_3 + 1))) = some r := H
                    have A17 := Aside0.mk A170
                    clear A170
                    have H' := Aside0.mk H
                    clear H
                    have p229 : 0 ≤ (x29_3 : Int) := of_decide_eq_true (by first | (with_reducible assumption) | assumption)
                    have q229 : x29_3 < (y225.length : Int) := of_decide_eq_true (by first | (with_reducible assumption) | assumption)
                    obtain ⟨ad229, A229_0, c229_0, e229, hx229_0, hl229_0, hi229_0⟩ := at_L1 HR228.out x29_3 p229 q229
                    cases e229
                    have HR229_0 := Aside0.mk hi229_0
                    have HC229_0 := Aside0.mk hl229_0
                    clear hi229_0 hl229_0
                    replace p229 := eq_true p229
                    replace q229 := eq_true q229
                    obtain ⟨i018, hi018, _, hsz18, _⟩ := info_parts info3
                    obtain ⟨hcut18, hA18, hC18⟩ := print_take_of (P := Try.prog) (Value.int .i64) 0 22 3 .i64 Try.underlying22 hi018 hsz18 A229_0 c229_0 (rd_L1 y225 x29_3) x19_2 (of_decide_eq_true (by first | (with_reducible assumption) | assumption)) (of_decide_eq_true (by first | (with_reducible assumption) | assumption)) HC229_0.out
                    have HR230 := Aside0.mk (Kd.C_of_reads (h1 := fun _ => rfl) (hA18 _ (Kd.reads_of_C HR229_0.out)))
                    have HC230 := Aside0.mk hC18
                    clear hA18 hC18 hi018 hsz18
                    go_wp2_with (first | ((with_reducible refine gate_callee (f := 113) rfl ?_); refine goesL_ (some 38) rfl rfl Try.func113 (by kernel_rfl) rfl #[.slice A229_0 ((rd_L1 y225 x29_3).take (x19_2 : Int).toNat).length c229_0] rfl (by (try simp only [List.map_toArray, List.map_cons, List.map_nil]); first | done | (rw [show ((rd_L1 y225 x29_3).take (x19_2 : Int).toNat).length = x19_2.toNat from (by rw [List.length_take]; have h_ : (x19_2 : Int) ≤ ((rd_L1 y225 x29_3).length : Int) := of_decide_eq_true (by first | (with_reducible assumption) | assumption); omega)] <;> rfl) | rfl | (simp only [List.length_drop, List.length_take]; rfl)) ?_; (with_reducible refine (impl_sum.calls k3 _ _ ((rd_L1 y225 x29_3).take (x19_2 : Int).toNat) t231 _ ?side1 ?side2 A17.out).mono ?_); (case side1 => repeat (first | exact HR230.out | (with_reducible refine Kd.C_alloc ?_ _) | (with_reducible refine Kd.C_drewN ?_ _) | (with_reducible refine Kd.C_drew ?_))); (case side2 => exact HC230.out); rintro e w' ⟨rfl, ⟨nd, rfl⟩⟩; refine ⟨_, rfl, ?_⟩))
                    go_roundg k3
                    case measure => have := HK1.out; have := HK2.out; have := HK3.out; omega
                    case rel => exact ⟨(wrap64 (x3_3 + (wrap64 ((rd (rd_L1 l0 x12_1) x19_2) * t231)))), (wrap64 (x29_3 + 1)), (by first | rfl | (simp; done) | (simp [*]; done)), (by first | rfl | (simp; done) | (simp [*]; done)), H', ⟨by have := HK1.out; have := HK2.out; have := HK3.out; omega⟩, by repeat (first | exact Drawn0.refl _ | apply Drawn0.step)⟩
                   ·rw [if_neg c16] at H
                    exact absurd H (by simp)
                  ·rw [if_neg c15] at H
                   exact absurd H (by simp)
                 ·rw [if_neg c14] at H
                  exact absurd H (by simp)
                ·rw [if_neg c13] at H
                 exact absurd H (by simp)
               ·rw [if_neg c12] at H
                have c12b0 : decide (x29_3 < (y225.length : Int)) = false := decide_eq_false c12
                clear c12
                have H' := Aside0.mk H
                clear H
                go_wp2
                go_roundg k3
                case measure => have := HK1.out; have := HK2.out; have := HK3.out; omega
                case rel => exact ⟨(x3_3), (wrap64 (x19_2 + 1)), (by first | rfl | (simp; done) | (simp [*]; done)), (by first | rfl | (simp; done) | (simp [*]; done)), H', ⟨by have := HK1.out; have := HK2.out; have := HK3.out; omega⟩, by repeat (first | exact Drawn0.refl _ | apply Drawn0.step)⟩
            ·rw [if_neg c10] at H
             exact absurd H (by simp)
           ·rw [if_neg c9] at H
            exact absurd H (by simp)
          ·rw [if_neg c7] at H
           exact absurd H (by simp)
         ·rw [if_neg c6] at H
          exact absurd H (by simp)
        ·rw [if_neg c5] at H
         have c5b0 : decide (x19_2 < ((rd_L1 l0 x12_1).length : Int)) = false := decide_eq_false c5
         clear c5
         have H' := Aside0.mk H
         clear H
         go_wp2
         go_roundg k2
         case measure => have := HK1.out; have := HK2.out; omega
         case rel => exact ⟨(x3_2), (wrap64 (x12_1 + 1)), (by first | rfl | (simp; done) | (simp [*]; done)), (by first | rfl | (simp; done) | (simp [*]; done)), H', ⟨by have := HK1.out; have := HK2.out; omega⟩, by repeat (first | exact Drawn0.refl _ | apply Drawn0.step)⟩
     ·rw [if_neg c4] at H
      exact absurd H (by simp)
    ·rw [if_neg c3] at H
     exact absurd H (by simp)
   ·rw [if_neg c2] at H
    have c2b0 : decide (x12_1 < (l0.length : Int)) = false := decide_eq_false c2
    clear c2
    obtain rfl := Option.some.inj H
    go_wp2
    go_ret
    exact ⟨by first | rfl | (simp; done) | (simp [*]; done), by repeat (first | exact Drawn0.refl _ | apply Drawn0.step)⟩

end Go.Proofs.Ytdcdkckpmkfjdaa.P

namespace Go.Proofs.Ytdcdkckpmkfjdaa
open Go.RowKit Go.Proofs.Ytdcdkckpmkfjdaa.P Go.Proofs.Ytdcdkckpmkfjdaa.L Go.Proofs.YtdcdkckpmkfjdaaW.PrintWords Go.Proofs.YtdcdkckpmkfjdaaW.PrintLast Go.Proofs.YtdcdkckpmkfjdaaW.PrintMore
set_option linter.unusedVariables false
set_option maxRecDepth 100000

def moV (T : List (List Int)) : Int := (impl_minusOnes.f 100 T).getD 0
def inV (T : List (List Int)) : Int := (impl_inversions.f 100 T).getD 0
def tyX (ofv : List (List Int) → Int) (n : Nat) (least : Nat) : List Int := csOf ofv (esX n) (List.replicate least 0) (esX n).length
def impl_tally_at_impl_minusOnes.f (a0 a1 : Int) (u : Unit) : Option (List Int) := if (1 ≤ a0 ∧ a0 ≤ 4) ∧ (0 ≤ a1 ∧ a1 ≤ 1000) ∧ ((esX a0.toNat).all fun T => (impl_minusOnes.f 100 T).isSome) = true ∧ csOk moV (esX a0.toNat) (List.replicate a1.toNat 0) = true then some (tyX moV a0.toNat a1.toNat) else none
theorem impl_tally_at_impl_minusOnes.calls (a0 : Int) (a1 : Int) (a2 : Unit) (r : List Int) (w : World) (h : impl_tally_at_impl_minusOnes.f a0 a1 a2 = some r) :
  Calls Try.prog 62 #[.int .i64 a0, .int .i64 a1, .func (.func 63) #[] #[]] w fun e w' => ∃ v0_ : Value, e = .returned (v0_) ∧ Kd.R (Kd.int .i64) 3 w' w.heap.size (fun _ => True) v0_ r ∧ Below w.heap.size w w' := by
 unfold impl_tally_at_impl_minusOnes.f at h
 split at h
 case isFalse => cases h
 rename_i hb
 obtain rfl := Option.some.inj h
 obtain ⟨n, rfl⟩ := Int.eq_ofNat_of_zero_le (show 0 ≤ a0 by omega)
 obtain ⟨m, rfl⟩ := Int.eq_ofNat_of_zero_le hb.2.1.1
 simp only [Int.toNat_natCast] at hb ⊢
 refine impl_tally.callsG n m 63 #[] (csOf moV (esX n) (List.replicate m 0)) (esX n) moV (by omega) (eachSigns_all (by omega) (by omega)) (enters_of Try.func63 (by kernel_rfl) rfl) w ?_ (by cases hq : esX n <;> rfl) (csOk_step moV _ _ hb.2.2.2)
 intro T A c W hT _ hC hc
 obtain ⟨v, hv⟩ := Option.isSome_iff_exists.1 (List.all_eq_true.1 hb.2.2.1 T hT)
 have e : moV T = v := by unfold moV; rw [hv]; rfl
 rw [e]
 exact (impl_minusOnes.calls 100 A c T v W hC hc hv).mono fun e w' h => ⟨h.1, h.2.below⟩
end Go.Proofs.Ytdcdkckpmkfjdaa

namespace Go.Proofs.Ytdcdkckpmkfjdaa.P
open Go.RowKit Go.Proofs.YtdcdkckpmkfjdaaW.PrintWords Go.Proofs.YtdcdkckpmkfjdaaW.PrintLast Go.Proofs.YtdcdkckpmkfjdaaW.PrintMore
attribute [local go_sem] max2_int min2_int max_two min_two max_three min_three max_four min_four   -- for this text's walks alone
set_option linter.unusedVariables false
set_option linter.unusedSimpArgs false

def impl_isWeighted.f (a0 : Int) : Option (Bool) := (impl_within.f a0 1 4).bind fun t167 => (some t167)
set_option maxHeartbeats 8000000 in
set_option maxRecDepth 100000 in
theorem impl_isWeighted.calls (a0 : Int) (r : Bool) (w : World) (h : impl_isWeighted.f a0 = some r) :
  Calls Try.prog 61 #[.int .i64 a0] w fun e w' => e = .returned (.bool r) ∧ Drawn0 w w' := by
 have H : ((impl_within.f a0 1 4).bind fun t167 => (some t167)) = some r := h
 clear h
 replace H := Option.bind_eq_some_iff.mp H
 obtain ⟨t167, A20, H⟩ := H
 replace H : (some t167) = some r := H
 have A2 := Aside0.mk A20
 clear A20
 obtain rfl := Option.some.inj H
 go_enter Try.func61, Try.ntmps61
 go_wp2_with (first | ((with_reducible refine gate_callee (f := 93) rfl ?_); refine goesL_ (some 4) rfl rfl Try.func93 (by kernel_rfl) rfl #[.int .i64 a0, .int .i64 1, .int .i64 4] rfl (by (try simp only [List.map_toArray, List.map_cons, List.map_nil]); first | done | rfl | (simp only [List.length_drop, List.length_take]; rfl)) ?_; (with_reducible refine (impl_within.calls a0 1 4 t167 _ A2.out).mono ?_); rintro e w' ⟨rfl, ⟨nd, rfl⟩⟩; refine ⟨_, rfl, ?_⟩))
 go_ret
 exact ⟨by first | rfl | (simp; done) | (simp [*]; done), by repeat (first | exact Drawn0.refl _ | apply Drawn0.step)⟩

end Go.Proofs.Ytdcdkckpmkfjdaa.P

namespace Go.Proofs.Ytdcdkckpmkfjdaa.L
open Go.RowKit Go.Proofs.Ytdcdkckpmkfjdaa Go.Proofs.Ytdcdkckpmkfjdaa.P Go.Proofs.YtdcdkckpmkfjdaaW.PrintWords Go.Proofs.YtdcdkckpmkfjdaaW.PrintLast Go.Proofs.YtdcdkckpmkfjdaaW.PrintMore
set_option linter.unusedVariables false
set_option linter.unusedSimpArgs false
set_option maxRecDepth 100000

def mtA (n : Int) : List Int := if inB n 1 4 = true then tyX moV n.toNat 1 else []
theorem mtA_out {n : Int} (h : inB n 1 4 = false) : mtA n = [] := by unfold mtA; rw [h]; rfl
theorem mt_f : impl_tally_at_impl_minusOnes.f 1 1 () = some (mtA 1) ∧ impl_tally_at_impl_minusOnes.f 2 1 () = some (mtA 2) ∧ impl_tally_at_impl_minusOnes.f 3 1 () = some (mtA 3) ∧ impl_tally_at_impl_minusOnes.f 4 1 () = some (mtA 4) := by decide +kernel
theorem one_four {n : Int} (h : inB n 1 4 = true) : n = 1 ∨ n = 2 ∨ n = 3 ∨ n = 4 := by obtain ⟨h0, h1⟩ := inB_true h; omega
set_option maxHeartbeats 2000000 in
theorem impl_MinusTable_calls (n : Int) (w : World) : Calls Try.prog 18 #[.int .i64 n] w (RetTR w (mtA n) (inB n 1 4)) := by
 have hw := fun W => impl_isWeighted.calls n (inB n 1 4) W rfl
 cases hi : inB n 1 4 with
 | false =>
  rw [hi] at hw
  rw [mtA_out hi]
  clear hi
  go_enter Try.func18, Try.ntmps18
  go_wp2_with (go_at_call 61; refine (hw _).mono ?_; rintro e w1 ⟨rfl, hd⟩; have hb := hd.below; clear hd)
  go_ret2
  exact ⟨_, rfl, Kd.R_nil _ _ _ _ _, hb⟩
 | true =>
  rw [hi] at hw
  have hc : impl_tally_at_impl_minusOnes.f n 1 () = some (mtA n) := by rcases one_four hi with rfl | rfl | rfl | rfl; exact mt_f.1; exact mt_f.2.1; exact mt_f.2.2.1; exact mt_f.2.2.2
  have HC := Aside0.mk (fun W => impl_tally_at_impl_minusOnes.calls n 1 () (mtA n) W hc)
  clear hi hc
  go_enter Try.func18, Try.ntmps18
  go_wp2_with (first | (go_at_call 61; refine (hw _).mono ?_; rintro e w1 ⟨rfl, hd⟩; have HB := Aside0.mk hd.below; clear hd) | (go_at_call 62; refine (HC.out _).mono ?_; rintro e w2 ⟨v, rfl, hR, hb⟩; have HR := Aside0.mk (Kd.R_lower hR HB.out.size); have HB2 := Aside0.mk (below_step HB.out hb); clear hR hb))
  go_ret2
  exact ⟨_, rfl, HR.out, HB2.out⟩
end Go.Proofs.Ytdcdkckpmkfjdaa.L

namespace Go.Proofs.Ytdcdkckpmkfjdaa
open Go.RowKit Go.Proofs.Ytdcdkckpmkfjdaa.P Go.Proofs.Ytdcdkckpmkfjdaa.L Go.Proofs.YtdcdkckpmkfjdaaW.PrintWords Go.Proofs.YtdcdkckpmkfjdaaW.PrintLast Go.Proofs.YtdcdkckpmkfjdaaW.PrintMore
set_option linter.unusedVariables false
set_option linter.unusedSimpArgs false
set_option maxRecDepth 100000

theorem S_row {W : World} {B : Nat} {ok : Nat → Prop} {g n c : Nat} {T : List (List Int)} (h : Kd.S (Kd.slice 3 (Kd.int .i64)) 22 W B ok (.slice (some ⟨g, 0, none⟩) n c) T) (i : Nat) (hi : i < T.length) (hp : 0 < (T.getD i []).length) :
  ∃ gi ci, W.cell? ⟨g, i, none⟩ = some (.slice (some ⟨gi, 0, none⟩) (T.getD i []).length ci) ∧ (T.getD i []).length ≤ ci ∧ B ≤ gi ∧ gi < W.heap.size ∧
   (∀ j : Nat, j < (T.getD i []).length → W.cell? ⟨gi, j, none⟩ = some (.int .i64 (rd (T.getD i []) (j : Int))) ∧ W.frozen? ⟨gi, j, none⟩ = false) ∧
   ∀ (j : Nat) (v : Int), Kd.S (Kd.slice 3 (Kd.int .i64)) 22 (W.setCell ⟨gi, j, none⟩ (.int .i64 v)) B ok (.slice (some ⟨g, 0, none⟩) n c) (putT T i j v) := by
 have hn := (Kd.S_reads' h).1
 obtain ⟨oki, cs, hcl, hM, hcc, hoki, hback⟩ := Kd.S_borrow h ([] : List Int) (i : Int) (by omega) (by omega)
 obtain ⟨u, rfl, hR⟩ := hM
 simp only [Int.toNat_natCast] at hR hcc hback
 have hx := hcc 0 _ rfl
 have hsz : (Kd.slice 3 (Kd.int .i64)).sz = 1 := rfl
 rw [hsz, Nat.mul_one, Nat.add_zero] at hx
 obtain ⟨gi, ci, rfl, hb, hl, _⟩ := Kd.R_form hR hp
 have hx2 : W.cell? ⟨g, i, none⟩ = some (.slice (some ⟨gi, 0, none⟩) (T.getD i []).length ci) := by
  rw [← hx]
  first | rw [add_plain] | rw [add_at, Nat.zero_add] | (simp [Addr.add]; done)
 refine ⟨gi, ci, hx2, (Kd.R_reads' hR).2.1, hb, hl, fun j hj => ?_, fun j v => ?_⟩
 ·have := Kd.R_celln 0 hR (j : Int) (by omega) (by omega)
  rw [Int.toNat_natCast] at this
  exact this
 ·have hq := Kd.R_putg hR (j : Int) v
  rw [Int.toNat_natCast] at hq
  exact hback hq.2 (fun k e_ => by injection e_ with e_; subst e_; exact hR.1 _ rfl) (x' := (T.getD i []).set j v) (Kd.M_row hq.1)
/-- The same, told of all later worlds. -/
theorem S_put {W : World} {B : Nat} {ok : Nat → Prop} {g n c : Nat} {T : List (List Int)} (h : Kd.S (Kd.slice 3 (Kd.int .i64)) 22 W B ok (.slice (some ⟨g, 0, none⟩) n c) T) (i j : Nat) (hi : i < T.length) (hj : j < (T.getD i []).length) :
  ∃ gi ci, W.cell? ⟨g, i, none⟩ = some (.slice (some ⟨gi, 0, none⟩) (T.getD i []).length ci) ∧ (T.getD i []).length ≤ ci ∧ B ≤ gi ∧ W.cell? ⟨gi, j, none⟩ = some (.int .i64 (rd (T.getD i []) (j : Int))) ∧
   ∀ W', Below W.heap.size W W' → W'.frozen? ⟨gi, j, none⟩ = false ∧ ∀ v : Int, Kd.S (Kd.slice 3 (Kd.int .i64)) 22 (W'.setCell ⟨gi, j, none⟩ (.int .i64 v)) B ok (.slice (some ⟨g, 0, none⟩) n c) (putT T i j v) := by
 obtain ⟨gi, ci, h1, h2, h3, h4, h5, h6⟩ := S_row h i hi (by omega)
 refine ⟨gi, ci, h1, h2, h3, (h5 j hj).1, fun W' hb => ?_⟩
 obtain ⟨gi', ci', k1, k2, k3, k4, k5, k6⟩ := S_row (Kd.S_below h hb) i hi (by omega)
 have e := Option.some.inj ((pw_cell_below hb h1).symm.trans k1)
 injection e with e1 e2 e3
 injection e1 with e1
 injection e1 with e1
 subst e1
 exact ⟨(k5 j hj).2, fun v => k6 j v⟩

/-- A row of an own table lies in a block that the table may have. -/
theorem row_ok {W : World} {B : Nat} {ok : Nat → Prop} {g n c : Nat} {T : List (List Int)} (h : Kd.S (Kd.slice 3 (Kd.int .i64)) 22 W B ok (.slice (some ⟨g, 0, none⟩) n c) T) (i : Nat) (hi : i < T.length) (hp : 0 < (T.getD i []).length) {gi ci m : Nat} (hc : W.cell? ⟨g, i, none⟩ = some (.slice (some ⟨gi, 0, none⟩) m ci)) : ok gi := by
 have hn := (Kd.S_reads' h).1
 obtain ⟨oki, cs, hcl, hM, hcc, hoki, hback⟩ := Kd.S_borrow h ([] : List Int) (i : Int) (by omega) (by omega)
 obtain ⟨u, rfl, hR⟩ := hM
 simp only [Int.toNat_natCast] at hR hcc
 have hx := hcc 0 _ rfl
 have hsz : (Kd.slice 3 (Kd.int .i64)).sz = 1 := rfl
 rw [hsz, Nat.mul_one, Nat.add_zero] at hx
 obtain ⟨gi', ci', rfl, hb, hl, _⟩ := Kd.R_form hR hp
 have hx2 : W.cell? ⟨g, i, none⟩ = some (.slice (some ⟨gi', 0, none⟩) (T.getD i []).length ci') := by
  rw [← hx]
  first | rw [add_plain] | rw [add_at, Nat.zero_add] | (simp [Addr.add]; done)
 have e := Option.some.inj (hc.symm.trans hx2)
 injection e with e1
 injection e1 with e1
 injection e1 with e1
 subst e1
 exact (hoki _ (hR.1 _ rfl)).1
/-- A row of an own table lies in another block than the rows' list. -/
theorem row_ne {W : World} {B : Nat} {ok : Nat → Prop} {g n c : Nat} {T : List (List Int)} (h : Kd.S (Kd.slice 3 (Kd.int .i64)) 22 W B ok (.slice (some ⟨g, 0, none⟩) n c) T) (i : Nat) (hi : i < T.length) (hp : 0 < (T.getD i []).length) {gi ci m : Nat} (hc : W.cell? ⟨g, i, none⟩ = some (.slice (some ⟨gi, 0, none⟩) m ci)) : g ≠ gi := by
 have hn := (Kd.S_reads' h).1
 obtain ⟨oki, cs, hcl, hM, hcc, hoki, hback⟩ := Kd.S_borrow h ([] : List Int) (i : Int) (by omega) (by omega)
 obtain ⟨u, rfl, hR⟩ := hM
 simp only [Int.toNat_natCast] at hR hcc
 have hx := hcc 0 _ rfl
 have hsz : (Kd.slice 3 (Kd.int .i64)).sz = 1 := rfl
 rw [hsz, Nat.mul_one, Nat.add_zero] at hx
 obtain ⟨gi', ci', rfl, hb, hl, _⟩ := Kd.R_form hR hp
 have hx2 : W.cell? ⟨g, i, none⟩ = some (.slice (some ⟨gi', 0, none⟩) (T.getD i []).length ci') := by
  rw [← hx]
  first | rw [add_plain] | rw [add_at, Nat.zero_add] | (simp [Addr.add]; done)
 have e := Option.some.inj (hc.symm.trans hx2)
 injection e with e1
 injection e1 with e1
 injection e1 with e1
 subst e1
 exact fun e => (hoki _ (hR.1 _ rfl)).2 (by rw [e]; rfl)
/-- A number counted up. -/
def cntT (T : List (List Int)) (i j : Nat) : List (List Int) := putT T i j (wrap64 (rd (T.getD i []) (j : Int) + 1))
/-- The state of JointTable: the variable bo holds the table. -/
def JtSt (W0 : World) (B bo : Nat) (tabs : Nat → List (List Int)) (j : Nat) (W : World) (ok : Nat → Prop) : Prop :=
 ∃ g n c, (ok = fun k => k < W0.heap.size) ∧ W0.heap.size ≤ W.heap.size ∧ (∀ k, k < B → W.heap[k]? = W0.heap[k]?) ∧ W.heap[bo]? = some (.cells #[.slice (some ⟨g, 0, none⟩) n c] 36 (0, 0)) ∧ Kd.S (Kd.slice 3 (Kd.int .i64)) 22 W B (fun k => k ≠ bo ∧ k < W0.heap.size) (.slice (some ⟨g, 0, none⟩) n c) (tabs j)
theorem JtSt.stays (W0 : World) (B bo : Nat) (tabs : Nat → List (List Int)) (hB : B ≤ bo) (hbo : bo < W0.heap.size) : Stays (JtSt W0 B bo tabs) := by
 refine ⟨?_, ?_⟩
 ·rintro j W ok ⟨g, n, c, rfl, hs, _⟩ k hk
  exact Nat.lt_of_lt_of_le hk hs
 ·rintro j W W' ok ⟨g, n, c, rfl, hs, hB2, hc, hS⟩ hm
  exact ⟨g, n, c, rfl, heap_grew hs (fun k hk => hm k hk), fun k hk => (hm k (show k < W0.heap.size by omega)).trans (hB2 k hk), (hm bo hbo).trans hc, Kd.S_step hS (fun k hk _ => hm k hk.2)⟩
set_option maxHeartbeats 8000000 in
theorem JointTable_2.calls (W0 : World) (B bo : Nat) (tabs : Nat → List (List Int)) (All : List (List (List Int))) (iv mv : List (List Int) → Int) (hB : B ≤ bo) (hbo : bo < W0.heap.size)
  (hin : ∀ (T : List (List Int)) (A : Option Addr) (c : Nat) (W : World), T ∈ All → Kd.C (Kd.slice 3 (Kd.int .i64)) W A T.length T → T.length ≤ c → Calls Try.prog 65 #[.slice A T.length c] W fun e w' => e = .returned (.int .i64 (iv T)) ∧ Below W.heap.size W w')
  (hmi : ∀ (T : List (List Int)) (A : Option Addr) (c : Nat) (W : World), T ∈ All → Kd.C (Kd.slice 3 (Kd.int .i64)) W A T.length T → T.length ≤ c → Calls Try.prog 63 #[.slice A T.length c] W fun e w' => e = .returned (.int .i64 (mv T)) ∧ Below W.heap.size W w')
  (hcs : ∀ (j : Nat) (T : List (List Int)), All[j]? = some T → ∃ p q : Nat, iv T = p ∧ mv T = q ∧ p < (tabs j).length ∧ q < ((tabs j).getD p []).length ∧ tabs (j + 1) = cntT (tabs j) p q)
  (j : Nat) (T : List (List Int)) (A : Option Addr) (c : Nat) (W : World) (ok : Nat → Prop) (hT : All[j]? = some T) (hst : JtSt W0 B bo tabs j W ok) (hF : Kd.F (Kd.slice 3 (Kd.int .i64)) W (fun k => ¬ ok k ∧ k < W.heap.size) A T.length T) (hc : T.length ≤ c) :
  Calls Try.prog 83 (#[.slice A T.length c] ++ #[.pointer (some ⟨bo, 0, none⟩)]) W (Stepped (JtSt W0 B bo tabs) (j + 1) W ok) := by
 obtain ⟨g, n, cg, rfl, hsz, hlow, hcell, hS⟩ := hst
 obtain ⟨p, q, hp, hq, hpl, hql, htab⟩ := hcs j T hT
 have hTm := List.mem_of_getElem? hT
 have HIN := Aside0.mk (fun W' (hb : Below W.heap.size W W') => hp ▸ hin T A c W' hTm (Kd.F_now (Kd.F_below hF hb)) hc)
 have HMI := Aside0.mk (fun W' (hb : Below W.heap.size W W') => hq ▸ hmi T A c W' hTm (Kd.F_now (Kd.F_below hF hb)) hc)
 obtain ⟨tb, htb⟩ : ∃ tb, tb = tabs j := ⟨_, rfl⟩
 rw [← htb] at hS hpl hql htab
 have hnl : n = tb.length := (Kd.S_reads' hS).1
 obtain ⟨gi, ci, hr1, hci, hgb, hr2, hput⟩ := S_put hS p q hpl hql
 have hgi : gi ≠ bo ∧ gi < W0.heap.size := row_ok hS p hpl (by omega) hr1
 obtain ⟨row, hrow⟩ : ∃ row, row = tb.getD p [] := ⟨_, rfl⟩
 rw [← hrow] at hr1 hr2 hci hql
 have hput2 : ∀ W', Below W.heap.size W W' → W'.frozen? ⟨gi, q, none⟩ = false ∧ Kd.S (Kd.slice 3 (Kd.int .i64)) 22 (W'.setCell ⟨gi, q, none⟩ (.int .i64 (IntKind.i64.wrap (rd row q + 1)))) B (fun k => k ≠ bo ∧ k < W0.heap.size) (.slice (some ⟨g, 0, none⟩) n cg) (tabs (j + 1)) := fun W' hb => ⟨(hput W' hb).1, by rw [htab, cntT, ← hrow, ← i64_w]; exact (hput W' hb).2 _⟩
 have HPUT := Aside0.mk hput2
 have hk1 : W.cell? ⟨bo, 0, none⟩ = some (.slice (some ⟨g, 0, none⟩) n cg) := blk_cell hcell 0
 have HCELL := Aside0.mk hcell
 have HSZ := Aside0.mk hsz
 have HLOW := Aside0.mk hlow
 have HBC := Aside0.mk (Below.refl W.heap.size W)
 have hz1 : (p : Int) < (n : Int) := by omega
 have hz2 : (q : Int) < (row.length : Int) := by omega
 have hfr := (hput2 W HBC.out).1
 have HGI := Aside0.mk hgi
 have HGB := Aside0.mk hgb
 clear hin hmi hcs hput hput2 hcell hsz hlow hF hc hT hS htab hpl hql hp hq hTm hnl htb hrow hgi hgb hci
 go_enter Try.func83, Try.ntmps83
 go_wp2
 go_region_law (first
   | (go_simp; go_at_call 65; (refine (HIN.out _ ?hbY).mono ?_); (case hbY => exact (by repeat (first | exact HBC.out | refine below_drew ?_))); rintro e w1 ⟨rfl, hb⟩; have n_ := fun h => Aside0.mk (Below.trans (B := W.heap.size) h (hb.mono (Below.size h))); have m_ := n_ (by repeat (first | exact HBC.out | refine below_drew ?_)); clear n_ HBC; have HBC := m_; clear m_; have hq1 := pw_cell_below HBC.out hk1; have hq2 := pw_cell_below HBC.out hr1; have hq3 := pw_cell_below HBC.out hr2; have hq4 := (HPUT.out _ HBC.out).1; clear hb)
   | (go_simp; go_at_call 63; (refine (HMI.out _ ?hbZ).mono ?_); (case hbZ => exact (by repeat (first | exact HBC.out | refine below_drew ?_))); rintro e w2 ⟨rfl, hb⟩; have n_ := fun h => Aside0.mk (Below.trans (B := W.heap.size) h (hb.mono (Below.size h))); have m_ := n_ (by repeat (first | exact HBC.out | refine below_drew ?_)); clear n_ HBC; have HBC := m_; clear m_; (try clear hq1 hq2 hq3 hq4); have hq1 := pw_cell_below HBC.out hk1; have hq2 := pw_cell_below HBC.out hr1; have hq3 := pw_cell_below HBC.out hr2; have hq4 := (HPUT.out _ HBC.out).1; clear hb))
 all_goals
  have HT := Aside0.mk ((Touch.of_below HBC.out (fun k => k < W0.heap.size)).set ⟨gi, q, none⟩ (.inl HGI.out.2) (.int .i64 (IntKind.i64.wrap (rd row q + 1))))
  go_wp2
  go_ret
  exact ⟨rfl, fun k => k < W0.heap.size, ⟨g, n, cg, rfl, Nat.le_trans HSZ.out HT.out.size, fun k hk => (Below.heap_setCell _ _ _ _ (by have := HGB.out; dsimp only; omega)).trans ((HBC.out.block k (by have := HSZ.out; omega)).trans (HLOW.out k hk)), (Below.heap_setCell _ _ _ _ (by have := HGI.out.1; dsimp only; omega)).trans (blk_below HCELL.out HBC.out), (HPUT.out _ HBC.out).2⟩, HT.out, fun k h => .inl h⟩
end Go.Proofs.Ytdcdkckpmkfjdaa
