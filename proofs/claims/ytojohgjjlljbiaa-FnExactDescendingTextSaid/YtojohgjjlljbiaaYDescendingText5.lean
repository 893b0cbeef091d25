/- Texts of one chain, in build order. -/
import Derived.Test.YtojohgjjlljbiaaYDescendingText4
namespace Go.Proofs.Ytojohgjjlljbiaa.P
open Go.RowKit Go.Proofs.YtojohgjjlljbiaaW.PrintWords Go.Proofs.YtojohgjjlljbiaaW.PrintLast Go.Proofs.YtojohgjjlljbiaaW.PrintMore
attribute [local go_sem] max2_int min2_int max_two min_two max_three min_three max_four min_four   -- for this text's walks alone
set_option linter.unusedVariables false
set_option linter.unusedSimpArgs false

def impl_isDescending.l0 : Nat → List (List Int) → Int → List (List Int) → Int → Int → Option (Bool)
 | 0, _, _, _, _, _ => none
 | k + 1, x0, x1, x7, x8, x9 => if x9 < x8 then (if 0 ≤ x9 then (if x9 < (x7.length : Int) then ((impl_isDescendedRow.f k (rd_L1 x7 x9) x1).bind fun t136 => (if t136 = true then (if x9 > 0 then (if 0 ≤ (wrap64 (x9 - 1)) then (if (wrap64 (x9 - 1)) < (x0.length : Int) then ((impl_standsBelow.f k (rd_L1 x0 (wrap64 (x9 - 1))) (rd_L1 x7 x9)).bind fun t138 => (if t138 = true then (impl_isDescending.l0 k x0 x1 x7 x8 (wrap64 (x9 + 1))) else (some false))) else (none)) else (none)) else (impl_isDescending.l0 k x0 x1 x7 x8 (wrap64 (x9 + 1)))) else (some false))) else (none)) else (none)) else (some true)
def impl_isDescending.f (k : Nat) (l0 : List (List Int)) (a1 : Int) : Option (Bool) := impl_isDescending.l0 k l0 a1 l0 (l0.length : Int) 0
set_option maxHeartbeats 8000000 in
set_option maxRecDepth 100000 in
theorem impl_isDescending.calls (k : Nat) (A0 : Option Addr) (c0 : Nat) (l0 : List (List Int)) (a1 : Int) (r : Bool) (w : World) (hr0 : Kd.C (Kd.slice 3 (Kd.int .i64)) w A0 l0.length l0) (hc0 : l0.length ≤ c0) (h : impl_isDescending.f k l0 a1 = some r) :
  Calls Try.prog 13 #[.slice A0 l0.length c0, .int .i64 a1] w fun e w' => e = .returned (.bool r) ∧ Below w.heap.size w w' := by
 have HR0 := Aside0.mk hr0
 have HC0 := Aside0.mk hc0
 clear hr0 hc0
 have HB := Aside0.mk (Below.refl w.heap.size w)
 have H : (impl_isDescending.l0 k l0 a1 l0 (l0.length : Int) 0) = some r := h
 clear h
 have H' := Aside0.mk H
 clear H
 go_enter Try.func13, Try.ntmps13
 go_wp2
 go_loopg [9] k (fun kq v9 w' => ∃ (x9_1 : Int), v9 = .int .i64 x9_1 ∧ Aside0 (impl_isDescending.l0 kq l0 a1 l0 (l0.length : Int) x9_1 = some r) ∧ Aside0 (kq ≤ k) ∧ Aside0 (Below w.heap.size w w'))
 case atStart => exact ⟨(0), (by first | rfl | (simp; done) | (simp [*]; done)), H', ⟨Nat.le_refl _⟩, ⟨by repeat (first | (with_reducible first | exact HB.out | apply below_alloc | apply pw_below_drewN | apply below_drew1) | exact HB.out)⟩⟩
 case round =>
  clear H'
  try clear c1
  try clear p2
  obtain ⟨x9_1, rfl, HA, HK1, HB⟩ := hrel
  cases gk with
  | zero => exact absurd HA.out (by simp [impl_isDescending.l0])
  | succ k1 =>
   have H := HA.out
   clear HA
   simp only [impl_isDescending.l0] at H
   by_cases c3 : x9_1 < (l0.length : Int)
   ·rw [if_pos c3] at H
    have c3b0 : decide (x9_1 < (l0.length : Int)) = true := decide_eq_true c3
    clear c3
    by_cases c4 : 0 ≤ x9_1
    ·rw [if_pos c4] at H
     have c4b0 : decide (0 ≤ x9_1) = true := decide_eq_true c4
     clear c4
     by_cases c5 : x9_1 < (l0.length : Int)
     ·rw [if_pos c5] at H
      have c5b0 : decide (x9_1 < (l0.length : Int)) = true := decide_eq_true c5
      clear c5
      replace H := Option.bind_eq_some_iff.mp H
      obtain ⟨t136, A60, H⟩ := H
      replace H : (if t136 = true then (if x9_1 > 0 then (if 0 ≤ (wrap64 (x9_1 - 1)) then (if (wrap64 (x9_1 - 1)) < (l0.length : Int) then ((impl_standsBelow.f k1 (rd_L1 l0 (wrap64 (x9_1 - 1))) (rd_L1 l0 x9_1)).bind fun t138 => (if t138 = true then (impl_isDescending.l0 k1 l0 a1 l0 (l0.length : Int) (wrap64 (x9_1 + 1))) else (some false))) else (none)) else (none)) else (impl_isDescending.l0 k1 l0 a1 l0 (l0.length : Int) (wrap64 (x9_1 + 1)))) else (some false)) = some r := H
      have A6 := Aside0.mk A60
      clear A60
      by_cases c7 : t136 = true
      ·subst c7
       have H1 : (if x9_1 > 0 then (if 0 ≤ (wrap64 (x9_1 - 1)) then (if (wrap64 (x9_1 - 1)) < (l0.length : Int) then ((impl_standsBelow.f k1 (rd_L1 l0 (wrap64 (x9_1 - 1))) (rd_L1 l0 x9_1)).bind fun t138 => (if t138 = true then (impl_isDescending.l0 k1 l0 a1 l0 (l0.length : Int) (wrap64 (x9_1 + 1))) else (some false))) else (none)) else (none)) else (impl_isDescending.l0 k1 l0 a1 l0 (l0.length : Int) (wrap64 (x9_1 + 1)))) = some r := by rw [if_pos rfl] at H; exact H
       clear H
       have H := H1
       clear H1
       by_cases c8 : x9_1 > 0
       ·rw [if_pos c8] at H
        have c8b0 : decide (0 < x9_1) = true := decide_eq_true c8
        clear c8
        obtain ⟨ji9, hji9⟩ : ∃ j_ : Int, (wrap64 (x9_1 - 1)) = j_ := ⟨_, rfl⟩
        replace H : (if 0 ≤ (ji9) then (if (ji9) < (l0.length : Int) then ((impl_standsBelow.f k1 (rd_L1 l0 (ji9)) (rd_L1 l0 x9_1)).bind fun t138 => (if t138 = true then (impl_isDescending.l0 k1 l0 a1 l0 (l0.length : Int) (wrap64 (x9_1 + 1))) else (some false))) else (none)) else (none)) = some r := by first | (rw [hji9] at H; exact H) | (simp only [hji9] at H ⊢; exact H)
        (try rw [hji9] at A6)
        have hji9w : (IntKind.i64.wrap (x9_1 - 1)) = ji9 := (i64_w _).trans hji9
        by_cases c10 : 0 ≤ (ji9)
        ·rw [if_pos c10] at H
         have c10b0 : decide (0 ≤ (ji9)) = true := decide_eq_true c10
         clear c10
         by_cases c11 : (ji9) < (l0.length : Int)
         ·rw [if_pos c11] at H
          have c11b0 : decide ((ji9) < (l0.length : Int)) = true := decide_eq_true c11
          clear c11
          replace H := Option.bind_eq_some_iff.mp H
          obtain ⟨t138, A120, H⟩ := H
          replace H : (if t138 = true then (impl_isDescending.l0 k1 l0 a1 l0 (l0.length : Int) (wrap64 (x9_1 + 1))) else (some false)) = some r := H
          have A12 := Aside0.mk A120
          clear A120
          by_cases c13 : t138 = true
          ·subst c13
           have H1 : (impl_isDescending.l0 k1 l0 a1 l0 (l0.length : Int) (wrap64 (x9_1 + 1))) = some r := by rw [if_pos rfl] at H; exact H
           clear H
           have H := H1
           clear H1
           have H' := Aside0.mk H
           clear H
           have p135 : 0 ≤ (x9_1 : Int) := of_decide_eq_true (by first | (with_reducible assumption) | assumption)
           have q135 : x9_1 < (l0.length : Int) := of_decide_eq_true (by first | (with_reducible assumption) | assumption)
           obtain ⟨ad135, A135_0, c135_0, e135, hx135_0, hl135_0, hi135_0⟩ := at_L1 HR0.out x9_1 p135 q135
           cases e135
           (try replace hx135_0 := (HB.out.cell (World.block_lt_of_cell? w _ hx135_0)).trans hx135_0)
           have HR135_0 := Aside0.mk hi135_0
           have HC135_0 := Aside0.mk hl135_0
           clear hi135_0 hl135_0
           replace p135 := eq_true p135
           replace q135 := eq_true q135
           go_wp2_with (first | ((with_reducible refine gate_callee (f := 19) rfl ?_); refine goesL_ (some 16) rfl rfl Try.func19 (by kernel_rfl) rfl #[.slice A135_0 (rd_L1 l0 x9_1).length c135_0, .int .i64 a1] rfl (by (try simp only [List.map_toArray, List.map_cons, List.map_nil]); first | done | rfl | (simp only [List.length_drop, List.length_take]; rfl)) ?_; (with_reducible refine (impl_isDescendedRow.calls k1 _ _ (rd_L1 l0 x9_1) a1 true _ ?side1 ?side2 A6.out).mono ?_); (case side1 => repeat (first | exact (Kd.C_below HR135_0.out HB.out) | (with_reducible refine Kd.C_alloc ?_ _) | (with_reducible refine Kd.C_drewN ?_ _) | (with_reducible refine Kd.C_drew ?_))); (case side2 => exact HC135_0.out); rintro e w14 ⟨rfl, hb⟩; refine ⟨_, rfl, ?_⟩; have n0_ := Aside0.mk (below_step (by repeat (first | (with_reducible first | exact HB.out | apply below_alloc | apply pw_below_drewN | apply below_drew1) | exact HB.out)) hb); clear HB; have HB := n0_; clear n0_; (try clear hb); (try clear hb2); (try clear hk); (try clear hi); have p137 : 0 ≤ ((ji9) : Int) := of_decide_eq_true (by first | (with_reducible assumption) | assumption); have q137 : (ji9) < (l0.length : Int) := of_decide_eq_true (by first | (with_reducible assumption) | assumption); obtain ⟨ad137, A137_0, c137_0, e137, hx137_0, hl137_0, hi137_0⟩ := at_L1 HR0.out (ji9) p137 q137; obtain rfl : ad135 = ad137 := (by injection e137); (try replace hx137_0 := (HB.out.cell (World.block_lt_of_cell? w _ hx137_0)).trans hx137_0); have HR137_0 := Aside0.mk hi137_0; have HC137_0 := Aside0.mk hl137_0; clear hi137_0 hl137_0; replace p137 := eq_true p137; replace q137 := eq_true q137) | (go_at_call 20; (with_reducible refine (impl_standsBelow.calls k1 _ _ (rd_L1 l0 (ji9)) _ _ (rd_L1 l0 x9_1) true _ ?side1 ?side2 ?side3 ?side4 A12.out).mono ?_); (case side1 => repeat (first | exact (Kd.C_below HR137_0.out HB.out) | (with_reducible refine Kd.C_alloc ?_ _) | (with_reducible refine Kd.C_drewN ?_ _) | (with_reducible refine Kd.C_drew ?_))); (case side2 => exact HC137_0.out); (case side3 => repeat (first | exact (Kd.C_below HR135_0.out HB.out) | (with_reducible refine Kd.C_alloc ?_ _) | (with_reducible refine Kd.C_drewN ?_ _) | (with_reducible refine Kd.C_drew ?_))); (case side4 => exact HC135_0.out); rintro e w' ⟨rfl, ⟨nd, rfl⟩⟩))
           go_roundg k1
           case measure => have := HK1.out; omega
           case rel => exact ⟨(wrap64 (x9_1 + 1)), (by first | rfl | (simp; done) | (simp [*]; done)), H', ⟨by have := HK1.out; omega⟩, ⟨by repeat (first | (with_reducible first | exact HB.out | apply below_alloc | apply pw_below_drewN | apply below_drew1) | exact HB.out)⟩⟩
          ·replace c13 := Bool.eq_false_iff.mpr c13
           subst c13
           have H1 : (some false) = some r := by rw [if_neg (show ¬ (false = true) by decide)] at H; exact H
           clear H
           have H := H1
           clear H1
           obtain rfl := Option.some.inj H
           have p135 : 0 ≤ (x9_1 : Int) := of_decide_eq_true (by first | (with_reducible assumption) | assumption)
           have q135 : x9_1 < (l0.length : Int) := of_decide_eq_true (by first | (with_reducible assumption) | assumption)
           obtain ⟨ad135, A135_0, c135_0, e135, hx135_0, hl135_0, hi135_0⟩ := at_L1 HR0.out x9_1 p135 q135
           cases e135
           (try replace hx135_0 := (HB.out.cell (World.block_lt_of_cell? w _ hx135_0)).trans hx135_0)
           have HR135_0 := Aside0.mk hi135_0
           have HC135_0 := Aside0.mk hl135_0
           clear hi135_0 hl135_0
           replace p135 := eq_true p135
           replace q135 := eq_true q135
           go_wp2_with (first | ((with_reducible refine gate_callee (f := 19) rfl ?_); refine goesL_ (some 16) rfl rfl Try.func19 (by kernel_rfl) rfl #[.slice A135_0 (rd_L1 l0 x9_1).length c135_0, .int .i64 a1] rfl (by (try simp only [List.map_toArray, List.map_cons, List.map_nil]); first | done | rfl | (simp only [List.length_drop, List.length_take]; rfl)) ?_; (with_reducible refine (impl_isDescendedRow.calls k1 _ _ (rd_L1 l0 x9_1) a1 true _ ?side1 ?side2 A6.out).mono ?_); (case side1 => repeat (first | exact (Kd.C_below HR135_0.out HB.out) | (with_reducible refine Kd.C_alloc ?_ _) | (with_reducible refine Kd.C_drewN ?_ _) | (with_reducible refine Kd.C_drew ?_))); (case side2 => exact HC135_0.out); rintro e w15 ⟨rfl, hb⟩; refine ⟨_, rfl, ?_⟩; have n0_ := Aside0.mk (below_step (by repeat (first | (with_reducible first | exact HB.out | apply below_alloc | apply pw_below_drewN | apply below_drew1) | exact HB.out)) hb); clear HB; have HB := n0_; clear n0_; (try clear hb); (try clear hb2); (try clear hk); (try clear hi); have p137 : 0 ≤ ((ji9) : Int) := of_decide_eq_true (by first | (with_reducible assumption) | assumption); have q137 : (ji9) < (l0.length : Int) := of_decide_eq_true (by first | (with_reducible assumption) | assumption); obtain ⟨ad137, A137_0, c137_0, e137, hx137_0, hl137_0, hi137_0⟩ := at_L1 HR0.out (ji9) p137 q137; obtain rfl : ad135 = ad137 := (by injection e137); (try replace hx137_0 := (HB.out.cell (World.block_lt_of_cell? w _ hx137_0)).trans hx137_0); have HR137_0 := Aside0.mk hi137_0; have HC137_0 := Aside0.mk hl137_0; clear hi137_0 hl137_0; replace p137 := eq_true p137; replace q137 := eq_true q137) | (go_at_call 20; (with_reducible refine (impl_standsBelow.calls k1 _ _ (rd_L1 l0 (ji9)) _ _ (rd_L1 l0 x9_1) false _ ?side1 ?side2 ?side3 ?side4 A12.out).mono ?_); (case side1 => repeat (first | exact (Kd.C_below HR137_0.out HB.out) | (with_reducible refine Kd.C_alloc ?_ _) | (with_reducible refine Kd.C_drewN ?_ _) | (with_reducible refine Kd.C_drew ?_))); (case side2 => exact HC137_0.out); (case side3 => repeat (first | exact (Kd.C_below HR135_0.out HB.out) | (with_reducible refine Kd.C_alloc ?_ _) | (with_reducible refine Kd.C_drewN ?_ _) | (with_reducible refine Kd.C_drew ?_))); (case side4 => exact HC135_0.out); rintro e w' ⟨rfl, ⟨nd, rfl⟩⟩))
           go_ret
           exact ⟨by first | rfl | (simp [errW_none, errW_some] <;> rfl) | (simp only [← hji9]; first | rfl | (simp [errW_none, errW_some] <;> rfl)) | (simp [*, errW_none, errW_some] <;> rfl), by repeat (first | (with_reducible first | exact HB.out | apply below_alloc | apply pw_below_drewN | apply below_drew1) | exact HB.out)⟩
         ·rw [if_neg c11] at H
          exact absurd H (by simp)
        ·rw [if_neg c10] at H
         exact absurd H (by simp)
       ·rw [if_neg c8] at H
        have c8b0 : decide (0 < x9_1) = false := decide_eq_false c8
        clear c8
        have H' := Aside0.mk H
        clear H
        have p135 : 0 ≤ (x9_1 : Int) := of_decide_eq_true (by first | (with_reducible assumption) | assumption)
        have q135 : x9_1 < (l0.length : Int) := of_decide_eq_true (by first | (with_reducible assumption) | assumption)
        obtain ⟨ad135, A135_0, c135_0, e135, hx135_0, hl135_0, hi135_0⟩ := at_L1 HR0.out x9_1 p135 q135
        cases e135
        (try replace hx135_0 := (HB.out.cell (World.block_lt_of_cell? w _ hx135_0)).trans hx135_0)
        have HR135_0 := Aside0.mk hi135_0
        have HC135_0 := Aside0.mk hl135_0
        clear hi135_0 hl135_0
        replace p135 := eq_true p135
        replace q135 := eq_true q135
        go_wp2_with (first | ((with_reducible refine gate_callee (f := 19) rfl ?_); refine goesL_ (some 16) rfl rfl Try.func19 (by kernel_rfl) rfl #[.slice A135_0 (rd_L1 l0 x9_1).length c135_0, .int .i64 a1] rfl (by (try simp only [List.map_toArray, List.map_cons, List.map_nil]); first | done | rfl | (simp only [List.length_drop, List.length_take]; rfl)) ?_; (with_reducible refine (impl_isDescendedRow.calls k1 _ _ (rd_L1 l0 x9_1) a1 true _ ?side1 ?side2 A6.out).mono ?_); (case side1 => repeat (first | exact (Kd.C_below HR135_0.out HB.out) | (with_reducible refine Kd.C_alloc ?_ _) | (with_reducible refine Kd.C_drewN ?_ _) | (with_reducible refine Kd.C_drew ?_))); (case side2 => exact HC135_0.out); rintro e w16 ⟨rfl, hb⟩; refine ⟨_, rfl, ?_⟩; have n0_ := Aside0.mk (below_step (by repeat (first | (with_reducible first | exact HB.out | apply below_alloc | apply pw_below_drewN | apply below_drew1) | exact HB.out)) hb); clear HB; have HB := n0_; clear n0_; (try clear hb); (try clear hb2); (try clear hk); (try clear hi)))
        go_roundg k1
        case measure => have := HK1.out; omega
        case rel => exact ⟨(wrap64 (x9_1 + 1)), (by first | rfl | (simp; done) | (simp [*]; done)), H', ⟨by have := HK1.out; omega⟩, ⟨by repeat (first | (with_reducible first | exact HB.out | apply below_alloc | apply pw_below_drewN | apply below_drew1) | exact HB.out)⟩⟩
      ·replace c7 := Bool.eq_false_iff.mpr c7
       subst c7
       have H1 : (some false) = some r := by rw [if_neg (show ¬ (false = true) by decide)] at H; exact H
       clear H
       have H := H1
       clear H1
       obtain rfl := Option.some.inj H
       have p135 : 0 ≤ (x9_1 : Int) := of_decide_eq_true (by first | (with_reducible assumption) | assumption)
       have q135 : x9_1 < (l0.length : Int) := of_decide_eq_true (by first | (with_reducible assumption) | assumption)
       obtain ⟨ad135, A135_0, c135_0, e135, hx135_0, hl135_0, hi135_0⟩ := at_L1 HR0.out x9_1 p135 q135
       cases e135
       (try replace hx135_0 := (HB.out.cell (World.block_lt_of_cell? w _ hx135_0)).trans hx135_0)
       have HR135_0 := Aside0.mk hi135_0
       have HC135_0 := Aside0.mk hl135_0
       clear hi135_0 hl135_0
       replace p135 := eq_true p135
       replace q135 := eq_true q135
       go_wp2_with (first | ((with_reducible refine gate_callee (f := 19) rfl ?_); refine goesL_ (some 16) rfl rfl Try.func19 (by kernel_rfl) rfl #[.slice A135_0 (rd_L1 l0 x9_1).length c135_0, .int .i64 a1] rfl (by (try simp only [List.map_toArray, List.map_cons, List.map_nil]); first | done | rfl | (simp only [List.length_drop, List.length_take]; rfl)) ?_; (with_reducible refine (impl_isDescendedRow.calls k1 _ _ (rd_L1 l0 x9_1) a1 false _ ?side1 ?side2 A6.out).mono ?_); (case side1 => repeat (first | exact (Kd.C_below HR135_0.out HB.out) | (with_reducible refine Kd.C_alloc ?_ _) | (with_reducible refine Kd.C_drewN ?_ _) | (with_reducible refine Kd.C_drew ?_))); (case side2 => exact HC135_0.out); rintro e w17 ⟨rfl, hb⟩; refine ⟨_, rfl, ?_⟩; have n0_ := Aside0.mk (below_step (by repeat (first | (with_reducible first | exact HB.out | apply below_alloc | apply pw_below_drewN | apply below_drew1) | exact HB.out)) hb); clear HB; have HB := n0_; clear n0_; (try clear hb); (try clear hb2); (try clear hk); (try clear hi)))
       go_ret
       exact ⟨by first | rfl | (simp [errW_none, errW_some] <;> rfl) | (simp [*, errW_none, errW_some] <;> rfl), by repeat (first | (with_reducible first | exact HB.out | apply below_alloc | apply pw_below_drewN | apply below_drew1) | exact HB.out)⟩
     ·rw [if_neg c5] at H
      exact absurd H (by simp)
    ·rw [if_neg c4] at H
     exact absurd H (by simp)
   ·rw [if_neg c3] at H
    have c3b0 : decide (x9_1 < (l0.length : Int)) = false := decide_eq_false c3
    clear c3
    obtain rfl := Option.some.inj H
    go_wp2
    go_ret
    exact ⟨by first | rfl | (simp [errW_none, errW_some] <;> rfl) | (simp [*, errW_none, errW_some] <;> rfl), by repeat (first | (with_reducible first | exact HB.out | apply below_alloc | apply pw_below_drewN | apply below_drew1) | exact HB.out)⟩

end Go.Proofs.Ytojohgjjlljbiaa.P

namespace Go.Proofs.Ytojohgjjlljbiaa.L
open Go.RowKit Go.Proofs.Ytojohgjjlljbiaa Go.Proofs.Ytojohgjjlljbiaa.P Go.Proofs.YtojohgjjlljbiaaW.PrintWords Go.Proofs.YtojohgjjlljbiaaW.PrintLast Go.Proofs.YtojohgjjlljbiaaW.PrintMore

theorem l1In_eq (a b c : Int) : spec_l1In.f a b c = some (inB a b c) := by
 unfold spec_l1In.f inB
 by_cases h : a ≥ b
 ·rw [if_pos h]; simp [show b ≤ a from h]
 ·rw [if_neg h]; simp [show ¬ b ≤ a from h]
theorem l1All_l0 (l : List Int) (a b : Int) (hl : l.length ≤ 17592186044416) : ∀ (d i : Nat), i + d = l.length → Ev (fun k => spec_l1All.l0 k a b l l.length i) ((l.drop i).all fun x => inB x a b) := by
 intro d
 induction d with
 | zero =>
  intro i hi
  refine Ev.step (fun k => by rw [spec_l1All.l0]) ?_
  rw [List.drop_eq_nil_of_le (by omega)]
  exact Ev.ite_neg (by omega) (Ev.now _)
 | succ d ih =>
  intro i hi
  refine Ev.step (fun k => by rw [spec_l1All.l0]) ?_
  refine Ev.ite_pos (by omega) (Ev.ite_pos (by omega) (Ev.ite_pos (by omega) ?_))
  rw [l1In_eq, rd_at l i (by omega), List.drop_eq_getElem_cons (by omega), List.all_cons]
  simp only [Option.bind_some]
  cases h : inB l[i] a b with
  | true =>
   refine Ev.ite_pos rfl ?_
   rw [wrapS i (by omega), Bool.true_and]
   exact ih (i + 1) (by omega)
  | false => exact Ev.ite_neg (by simp) (Ev.now _)
theorem l1All_ev (l : List Int) (a b : Int) (hl : l.length ≤ 17592186044416) : Ev (fun k => spec_l1All.f k l a b) (l.all fun x => inB x a b) := l1All_l0 l a b hl l.length 0 (by omega)

/-- From place i on no number is greater than the one before. -/
def noninc (r : List Int) (i : Nat) : Bool := (List.range' i (r.length - i)).all fun z => decide (rd r z ≤ rd r ((z - 1 : Nat) : Int))
theorem noninc_end (r : List Int) (i : Nat) (h : r.length ≤ i) : noninc r i = true := by unfold noninc; rw [show r.length - i = 0 by omega]; rfl
theorem noninc_step (r : List Int) (i : Nat) (h : i < r.length) : noninc r i = (decide (rd r i ≤ rd r ((i - 1 : Nat) : Int)) && noninc r (i + 1)) := by
 unfold noninc
 obtain ⟨m, hm⟩ : ∃ m, r.length - i = m + 1 := ⟨r.length - i - 1, by omega⟩
 rw [hm, show r.length - (i + 1) = m by omega, List.range'_succ, List.all_cons]
/-- Parts that can be a row. -/
def rowGood (n : Int) (r : List Int) : Bool := decide (0 < r.length) && ((r.all fun x => inB x 1 n) && (decide ((r.length : Int) < rd r 0) && noninc r 1))
theorem all_rd {r : List Int} {a b : Int} (h : (r.all fun x => inB x a b) = true) (i : Nat) (hi : i < r.length) : a ≤ rd r i ∧ rd r i ≤ b := by
 rw [rd_at r i hi]
 exact (inB_iff _ _ _).1 (List.all_eq_true.1 h _ (List.getElem_mem hi))
theorem rowGood_facts {n : Int} {r : List Int} (h : rowGood n r = true) : 0 < r.length ∧ (r.length : Int) < n ∧ (r.all fun x => inB x 1 n) = true ∧ (r.length : Int) < rd r 0 := by
 simp only [rowGood, Bool.and_eq_true] at h
 have h1 := of_decide_eq_true h.1
 have h3 := of_decide_eq_true h.2.2.1
 have h2 := all_rd h.2.1 0 h1
 simp only [Int.natCast_zero] at h2
 have : rd r ((0 : Nat) : Int) = rd r 0 := rfl
 exact ⟨h1, by omega, h.2.1, h3⟩

theorem dpRow_l0 (r : List Int) (hl : r.length ≤ 17592186044416) : ∀ (d i : Nat), 1 ≤ i → r.length - i ≤ d → Ev (fun k => spec_dpRow.l0 k r i) (noninc r i) := by
 intro d
 induction d with
 | zero =>
  intro i h1 hi
  refine Ev.step (fun k => by rw [spec_dpRow.l0]) ?_
  rw [noninc_end r i (by omega)]
  exact Ev.ite_neg (by omega) (Ev.now _)
 | succ d ih =>
  intro i h1 hi
  refine Ev.step (fun k => by rw [spec_dpRow.l0]) ?_
  by_cases hlt : i < r.length
  ·rw [wrapP i h1 (by omega), noninc_step r i hlt]
   refine Ev.ite_pos (by omega) (Ev.ite_pos (by omega) (Ev.ite_pos (by omega) (Ev.ite_pos (by omega) ?_)))
   by_cases hq : rd r i > rd r ((i - 1 : Nat) : Int)
   ·refine Ev.ite_pos hq ?_
    rw [decide_eq_false (by omega)]
    exact Ev.now _
   ·refine Ev.ite_neg hq ?_
    rw [decide_eq_true (by omega), Bool.true_and, wrapS i (by omega)]
    exact ih (i + 1) (by omega) (by omega)
  ·rw [noninc_end r i (by omega)]
   exact Ev.ite_neg (by omega) (Ev.now _)
theorem dpRow_j0 (r : List Int) (b : Bool) (hl : r.length ≤ 17592186044416) : Ev (fun k => spec_dpRow.j0 k r b) (!b && noninc r 1) := by
 refine Ev.step (fun k => by rw [spec_dpRow.j0]) ?_
 cases b with
 | true => exact Ev.ite_pos rfl (Ev.now _)
 | false => exact Ev.ite_neg (by simp) (dpRow_l0 r hl r.length 1 (by omega) (by omega))
theorem dpRow_ev (r : List Int) (n : Int) (hl : r.length ≤ 17592186044416) : Ev (fun k => spec_dpRow.f k r n) (rowGood n r) := by
 unfold spec_dpRow.f
 by_cases h0 : (r.length : Int) = 0
 ·refine Ev.ite_pos h0 ?_
  have : rowGood n r = false := by unfold rowGood; rw [decide_eq_false (by omega)]; rfl
  rw [this]
  exact dpRow_j0 r true hl
 ·refine Ev.ite_neg h0 ?_
  by_cases h1 : (r.length : Int) ≥ n
  ·refine Ev.ite_pos h1 ?_
   have : rowGood n r = false := by
    cases hg : rowGood n r with
    | false => rfl
    | true => have := (rowGood_facts hg).2.1; omega
   rw [this]
   exact dpRow_j0 r true hl
  ·refine Ev.ite_neg h1 (Ev.bind (l1All_ev r 1 n hl) ?_)
   unfold rowGood
   rw [decide_eq_true (show 0 < r.length by omega), Bool.true_and]
   cases h2 : (r.all fun x => inB x 1 n) with
   | false => exact Ev.ite_neg (by simp) (dpRow_j0 r true hl)
   | true =>
    refine Ev.ite_pos rfl (Ev.ite_pos (by omega) ?_)
    have := dpRow_j0 r (decide (rd r 0 ≤ (r.length : Int))) hl
    rw [show (!decide (rd r 0 ≤ (r.length : Int))) = decide ((r.length : Int) < rd r 0) from by by_cases hq : rd r 0 ≤ (r.length : Int) <;> simp [hq] <;> omega] at this
    rw [Bool.true_and]
    exact this
theorem descRow_l0 (r : List Int) (n : Int) (hl : r.length ≤ 17592186044416) : ∀ (d i : Nat), 1 ≤ i → r.length - i ≤ d → Ev (fun k => impl_isDescendedRow.l0 k r n i) (noninc r i && (decide (0 < r.length) && ((r.all fun x => inB x 1 n) && decide ((r.length : Int) < rd r 0)))) := by
 have fin : ∀ i, 1 ≤ i → r.length ≤ i → Ev (fun k => impl_isDescendedRow.l0 k r n i) (noninc r i && (decide (0 < r.length) && ((r.all fun x => inB x 1 n) && decide ((r.length : Int) < rd r 0)))) := by
  intro i h1 hi
  refine Ev.step (fun k => by rw [impl_isDescendedRow.l0]) ?_
  rw [noninc_end r i hi, Bool.true_and]
  refine Ev.ite_neg (by omega) ?_
  by_cases h0 : (r.length : Int) > 0
  ·refine Ev.ite_pos h0 (Ev.some_bind rfl ?_)
   rw [decide_eq_true (show 0 < r.length by omega), Bool.true_and]
   cases h2 : (r.all fun x => inB x 1 n) with
   | false => exact Ev.ite_neg (by simp) (Ev.now _)
   | true => exact Ev.ite_pos rfl (Ev.ite_pos (by omega) (Ev.now _))
  ·refine Ev.ite_neg h0 ?_
   rw [decide_eq_false (show ¬ 0 < r.length by omega)]
   exact Ev.now _
 intro d
 induction d with
 | zero => intro i h1 hi; exact fin i h1 (by omega)
 | succ d ih =>
  intro i h1 hi
  by_cases hlt : i < r.length
  ·refine Ev.step (fun k => by rw [impl_isDescendedRow.l0]) ?_
   rw [wrapP i h1 (by omega), noninc_step r i hlt]
   refine Ev.ite_pos (by omega) (Ev.ite_pos (by omega) (Ev.ite_pos (by omega) (Ev.ite_pos (by omega) ?_)))
   by_cases hq : rd r i > rd r ((i - 1 : Nat) : Int)
   ·refine Ev.ite_pos hq ?_
    rw [decide_eq_false (show ¬ rd r i ≤ rd r ((i - 1 : Nat) : Int) by omega)]
    exact Ev.now _
   ·refine Ev.ite_neg hq ?_
    rw [decide_eq_true (show rd r i ≤ rd r ((i - 1 : Nat) : Int) by omega), Bool.true_and, wrapS i (by omega)]
    exact ih (i + 1) (by omega) (by omega)
  ·exact fin i h1 (by omega)
theorem descRow_ev (r : List Int) (n : Int) (hl : r.length ≤ 17592186044416) : Ev (fun k => impl_isDescendedRow.f k r n) (rowGood n r) := by
 unfold impl_isDescendedRow.f
 have h := descRow_l0 r n hl r.length 1 (by omega) (by omega)
 have e : (noninc r 1 && (decide (0 < r.length) && ((r.all fun x => inB x 1 n) && decide ((r.length : Int) < rd r 0)))) = rowGood n r := by
  unfold rowGood
  cases noninc r 1 <;> cases decide (0 < r.length) <;> cases (r.all fun x => inB x 1 n) <;> simp
 rw [e] at h
 exact h

/-- From place i on each number is less than the one above and to the right. -/
def under (a r : List Int) (i : Nat) : Bool := (List.range' i (r.length - i)).all fun z => decide (rd r z < rd a ((z + 1 : Nat) : Int))
theorem under_end (a r : List Int) (i : Nat) (h : r.length ≤ i) : under a r i = true := by unfold under; rw [show r.length - i = 0 by omega]; rfl
theorem under_step (a r : List Int) (i : Nat) (h : i < r.length) : under a r i = (decide (rd r i < rd a ((i + 1 : Nat) : Int)) && under a r (i + 1)) := by
 unfold under
 obtain ⟨m, hm⟩ : ∃ m, r.length - i = m + 1 := ⟨r.length - i - 1, by omega⟩
 rw [hm, show r.length - (i + 1) = m by omega, List.range'_succ, List.all_cons]
/-- Row r can stand below row a. -/
def belowB (a r : List Int) : Bool := decide (r.length < a.length) && (decide (rd r 0 ≤ (a.length : Int)) && under a r 0)

theorem dpBelow_l0 (a r : List Int) (hl : r.length ≤ 17592186044416) (hlt : r.length < a.length) : ∀ (d i : Nat), i + d = r.length → Ev (fun k => spec_dpBelow.l0 k a r r.length i) (under a r i) := by
 intro d
 induction d with
 | zero =>
  intro i hi
  refine Ev.step (fun k => by rw [spec_dpBelow.l0]) ?_
  rw [under_end a r i (by omega)]
  exact Ev.ite_neg (by omega) (Ev.now _)
 | succ d ih =>
  intro i hi
  refine Ev.step (fun k => by rw [spec_dpBelow.l0]) ?_
  rw [wrapS i (by omega), under_step a r i (by omega)]
  refine Ev.ite_pos (by omega) (Ev.ite_pos (by omega) (Ev.ite_pos (by omega) (Ev.ite_pos (by omega) (Ev.ite_pos (by omega) ?_))))
  by_cases hq : rd r i ≥ rd a ((i + 1 : Nat) : Int)
  ·refine Ev.ite_pos hq ?_
   rw [decide_eq_false (by omega)]
   exact Ev.now _
  ·refine Ev.ite_neg hq ?_
   rw [decide_eq_true (by omega), Bool.true_and]
   exact ih (i + 1) (by omega)

theorem stands_l0 (a r : List Int) (hl : r.length ≤ 17592186044416) (hlt : r.length < a.length) : ∀ (d i : Nat), i + d = r.length → Ev (fun k => impl_standsBelow.l0 k a r r.length i) (under a r i) := by
 intro d
 induction d with
 | zero =>
  intro i hi
  refine Ev.step (fun k => by rw [impl_standsBelow.l0]) ?_
  rw [under_end a r i (by omega)]
  exact Ev.ite_neg (by omega) (Ev.now _)
 | succ d ih =>
  intro i hi
  refine Ev.step (fun k => by rw [impl_standsBelow.l0]) ?_
  rw [wrapS i (by omega), under_step a r i (by omega)]
  refine Ev.ite_pos (by omega) (Ev.ite_pos (by omega) (Ev.ite_pos (by omega) (Ev.ite_pos (by omega) (Ev.ite_pos (by omega) ?_))))
  by_cases hq : rd r i ≥ rd a ((i + 1 : Nat) : Int)
  ·refine Ev.ite_pos hq ?_
   rw [decide_eq_false (by omega)]
   exact Ev.now _
  ·refine Ev.ite_neg hq ?_
   rw [decide_eq_true (by omega), Bool.true_and]
   exact ih (i + 1) (by omega)

theorem dpBelow_ev (a r : List Int) (hl : r.length ≤ 17592186044416) (h0 : 0 < r.length) : Ev (fun k => spec_dpBelow.f k r a) (belowB a r) := by
 have j : ∀ b : Bool, (b = false → r.length < a.length) → Ev (fun k => spec_dpBelow.j0 k r a b) (!b && under a r 0) := by
  intro b hb
  refine Ev.step (fun k => by rw [spec_dpBelow.j0]) ?_
  cases b with
  | true => exact Ev.ite_pos rfl (Ev.now _)
  | false => exact Ev.ite_neg (by simp) (dpBelow_l0 a r hl (hb rfl) r.length 0 (by omega))
 unfold spec_dpBelow.f belowB
 by_cases h1 : (r.length : Int) ≥ (a.length : Int)
 ·refine Ev.ite_pos h1 ?_
  rw [decide_eq_false (show ¬ r.length < a.length by omega)]
  exact j true (by simp)
 ·refine Ev.ite_neg h1 (Ev.ite_pos (by omega) ?_)
  rw [decide_eq_true (show r.length < a.length by omega), Bool.true_and]
  have := j (decide (rd r 0 > (a.length : Int))) (fun _ => by omega)
  rw [show (!decide (rd r 0 > (a.length : Int))) = decide (rd r 0 ≤ (a.length : Int)) from by by_cases hq : rd r 0 ≤ (a.length : Int) <;> simp [hq] <;> omega] at this
  exact this
theorem stands_ev (a r : List Int) (hl : r.length ≤ 17592186044416) (h0 : 0 < r.length) : Ev (fun k => impl_standsBelow.f k a r) (belowB a r) := by
 have j : ∀ b : Bool, (b = false → r.length < a.length) → Ev (fun k => impl_standsBelow.j0 k a r b) (!b && under a r 0) := by
  intro b hb
  refine Ev.step (fun k => by rw [impl_standsBelow.j0]) ?_
  cases b with
  | true => exact Ev.ite_pos rfl (Ev.now _)
  | false => exact Ev.ite_neg (by simp) (stands_l0 a r hl (hb rfl) r.length 0 (by omega))
 unfold impl_standsBelow.f belowB
 refine Ev.ite_pos (by omega) ?_
 by_cases h1 : rd r 0 > (a.length : Int)
 ·refine Ev.ite_pos h1 ?_
  rw [decide_eq_false (show ¬ rd r 0 ≤ (a.length : Int) by omega), Bool.false_and, Bool.and_false]
  exact j true (by simp)
 ·refine Ev.ite_neg h1 ?_
  rw [decide_eq_true (show rd r 0 ≤ (a.length : Int) by omega), Bool.true_and]
  have := j (decide ((r.length : Int) ≥ (a.length : Int))) (fun h => by have := of_decide_eq_false h; omega)
  rw [show (!decide ((r.length : Int) ≥ (a.length : Int))) = decide (r.length < a.length) from by by_cases hq : r.length < a.length <;> simp [hq] <;> omega] at this
  exact this

/-- From row i on all rows are right. -/
def goodFrom (n : Int) (l : List (List Int)) (i : Nat) : Bool := (List.range' i (l.length - i)).all fun z => rowGood n (l.getD z []) && (decide (z = 0) || belowB (l.getD (z - 1) []) (l.getD z []))
theorem goodFrom_end (n : Int) (l : List (List Int)) (i : Nat) (h : l.length ≤ i) : goodFrom n l i = true := by unfold goodFrom; rw [show l.length - i = 0 by omega]; rfl
theorem goodFrom_step (n : Int) (l : List (List Int)) (i : Nat) (h : i < l.length) : goodFrom n l i = ((rowGood n (l.getD i []) && (decide (i = 0) || belowB (l.getD (i - 1) []) (l.getD i []))) && goodFrom n l (i + 1)) := by
 unfold goodFrom
 obtain ⟨m, hm⟩ : ∃ m, l.length - i = m + 1 := ⟨l.length - i - 1, by omega⟩
 rw [hm, show l.length - (i + 1) = m by omega, List.range'_succ, List.all_cons]
/-- The rows are a descending plane partition for n. -/
def isDesc (n : Int) (l : List (List Int)) : Bool := goodFrom n l 0

theorem specGood_l0 (n : Int) (l : List (List Int)) (hl : rowsOk l) : ∀ (d i : Nat), i + d = l.length → Ev (fun k => spec_dpGood.l0 k l n l l.length i) (goodFrom n l i) := by
 have hl1 := hl.1
 intro d
 induction d with
 | zero =>
  intro i hi
  refine Ev.step (fun k => by rw [spec_dpGood.l0]) ?_
  rw [goodFrom_end n l i (by omega)]
  exact Ev.ite_neg (by omega) (Ev.now _)
 | succ d ih =>
  intro i hi
  refine Ev.step (fun k => by rw [spec_dpGood.l0]) ?_
  rw [goodFrom_step n l i (by omega), wrapS i (by omega), rd1_get]
  refine Ev.ite_pos (by omega) (Ev.ite_pos (by omega) (Ev.ite_pos (by omega) (Ev.bind (dpRow_ev (l.getD i []) n (hl.at_ i)) ?_)))
  cases hg : rowGood n (l.getD i []) with
  | false => exact Ev.ite_neg (by simp) (Ev.now _)
  | true =>
   refine Ev.ite_pos rfl ?_
   by_cases h0 : i = 0
   ·subst h0
    refine Ev.ite_neg (by omega) ?_
    simp only [decide_true, Bool.true_or, Bool.true_and]
    exact ih (0 + 1) (by omega)
   ·refine Ev.ite_pos (by omega) ?_
    rw [wrapP i (by omega) (by omega), rd1_get]
    refine Ev.ite_pos (by omega) (Ev.ite_pos (by omega) (Ev.bind (dpBelow_ev (l.getD (i - 1) []) (l.getD i []) (hl.at_ i) (rowGood_facts hg).1) ?_))
    rw [decide_eq_false h0, Bool.false_or, Bool.true_and]
    cases hb : belowB (l.getD (i - 1) []) (l.getD i []) with
    | false => exact Ev.ite_neg (by simp) (Ev.now _)
    | true =>
     refine Ev.ite_pos rfl ?_
     rw [Bool.true_and]
     exact ih (i + 1) (by omega)

theorem implGood_l0 (n : Int) (l : List (List Int)) (hl : rowsOk l) : ∀ (d i : Nat), i + d = l.length → Ev (fun k => impl_isDescending.l0 k l n l l.length i) (goodFrom n l i) := by
 have hl1 := hl.1
 intro d
 induction d with
 | zero =>
  intro i hi
  refine Ev.step (fun k => by rw [impl_isDescending.l0]) ?_
  rw [goodFrom_end n l i (by omega)]
  exact Ev.ite_neg (by omega) (Ev.now _)
 | succ d ih =>
  intro i hi
  refine Ev.step (fun k => by rw [impl_isDescending.l0]) ?_
  rw [goodFrom_step n l i (by omega), wrapS i (by omega), rd1_get]
  refine Ev.ite_pos (by omega) (Ev.ite_pos (by omega) (Ev.ite_pos (by omega) (Ev.bind (descRow_ev (l.getD i []) n (hl.at_ i)) ?_)))
  cases hg : rowGood n (l.getD i []) with
  | false => exact Ev.ite_neg (by simp) (Ev.now _)
  | true =>
   refine Ev.ite_pos rfl ?_
   by_cases h0 : i = 0
   ·subst h0
    refine Ev.ite_neg (by omega) ?_
    simp only [decide_true, Bool.true_or, Bool.true_and]
    exact ih (0 + 1) (by omega)
   ·refine Ev.ite_pos (by omega) ?_
    rw [wrapP i (by omega) (by omega), rd1_get]
    refine Ev.ite_pos (by omega) (Ev.ite_pos (by omega) (Ev.bind (stands_ev (l.getD (i - 1) []) (l.getD i []) (hl.at_ i) (rowGood_facts hg).1) ?_))
    rw [decide_eq_false h0, Bool.false_or, Bool.true_and]
    cases hb : belowB (l.getD (i - 1) []) (l.getD i []) with
    | false => exact Ev.ite_neg (by simp) (Ev.now _)
    | true =>
     refine Ev.ite_pos rfl ?_
     rw [Bool.true_and]
     exact ih (i + 1) (by omega)

theorem impl_isDesc_ev (n : Int) (l : List (List Int)) (hl : rowsOk l) : Ev (fun k => impl_isDescending.f k l n) (isDesc n l) := implGood_l0 n l hl l.length 0 (by omega)
theorem goodFrom_short (n : Int) (l : List (List Int)) : ∀ (d i : Nat), i + d = l.length → 1 ≤ i → 1 ≤ (l.getD (i - 1) []).length → ((l.getD (i - 1) []).length : Int) + i ≤ n → goodFrom n l i = true → (l.length : Int) ≤ n := by
 intro d
 induction d with
 | zero => intro i hi _ h1 h2 _; omega
 | succ d ih =>
  intro i hi h1 h2 h3 hg
  rw [goodFrom_step n l i (by omega), Bool.and_eq_true, Bool.and_eq_true, decide_eq_false (by omega), Bool.false_or] at hg
  obtain ⟨⟨hr, hb⟩, hg⟩ := hg
  have hp := (rowGood_facts hr).1
  simp only [belowB, Bool.and_eq_true] at hb
  have hlen := of_decide_eq_true hb.1
  exact ih (i + 1) (by omega) (by omega) (by rw [Nat.add_sub_cancel]; omega) (by rw [Nat.add_sub_cancel]; omega) hg
theorem isDesc_short (n : Int) (l : List (List Int)) (hn : 0 ≤ n) (h : isDesc n l = true) : (l.length : Int) ≤ n := by
 unfold isDesc at h
 rcases Nat.eq_zero_or_pos l.length with h0 | h0
 ·omega
 ·rw [goodFrom_step n l 0 h0, Bool.and_eq_true, Bool.and_eq_true] at h
  obtain ⟨⟨hr, _⟩, hg⟩ := h
  have hf := rowGood_facts hr
  exact goodFrom_short n l (l.length - 1) 1 (by omega) (by omega) hf.1 (by rw [Nat.sub_self]; omega) hg
theorem spec_isDesc_ev (n : Int) (l : List (List Int)) (hl : rowsOk l) (hn : 0 ≤ n) : Ev (fun k => spec_dpGood.f k l n) (isDesc n l) := by
 unfold spec_dpGood.f
 by_cases h : (l.length : Int) > n
 ·refine Ev.ite_pos h ?_
  have : isDesc n l = false := by
   cases hd : isDesc n l with
   | false => rfl
   | true => have := isDesc_short n l hn hd; omega
  rw [this]
  exact Ev.now _
 ·exact Ev.ite_neg h (specGood_l0 n l hl l.length 0 (by omega))

end Go.Proofs.Ytojohgjjlljbiaa.L
