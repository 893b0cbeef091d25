/- Texts of one chain, in build order. -/
import Derived.Test.YtbihfdadnkmckaaYBAreLoopsFromLoopsLoopsOf6
namespace Go.Proofs.Ytbihfdadnkmckaa.P
open Go.RowKit Go.Proofs.YtbihfdadnkmckaaW.PrintWords Go.Proofs.YtbihfdadnkmckaaW.PrintLast Go.Proofs.YtbihfdadnkmckaaW.PrintMore
attribute [local go_sem] max2_int min2_int max_two min_two max_three min_three max_four min_four   -- for this text's walks alone
set_option linter.unusedVariables false
set_option linter.unusedSimpArgs false

mutual
def spec_sgTurn.l0 : Nat → List (List Int) → List (List Int) → Int → Int → Option ((List (List Int)))
 | 0, _, _, _, _ => none
 | k + 1, x0, x3, x9, x10 => if x10 < x9 then (spec_sgTurn.l1 k x0 x3 x10 ([] : List Int) x9 x10 x0 (x0.length : Int) 0) else (some x3)
def spec_sgTurn.l1 : Nat → List (List Int) → List (List Int) → Int → List Int → Int → Int → List (List Int) → Int → Int → Option ((List (List Int)))
 | 0, _, _, _, _, _, _, _, _, _ => none
 | k + 1, x0, x3, x4, x5, x9, x10, x13, x14, x15 => if x15 < x14 then (if 0 ≤ x15 then (if x15 < (x13.length : Int) then (if 0 ≤ x4 then (if x4 < ((rd_L1 x13 x15).length : Int) then (if x5.length < 17592186044416 then (spec_sgTurn.l1 k x0 x3 x4 (x5 ++ [rd (rd_L1 x13 x15) x4]) x9 x10 x13 x14 (wrap64 (x15 + 1))) else (none)) else (none)) else (none)) else (none)) else (none)) else (if x3.length < 5864062014805 then (spec_sgTurn.l0 k x0 (x3 ++ [x5]) x9 (wrap64 (x10 + 1))) else (none))
end
def spec_sgTurn.f (k : Nat) (l0 : List (List Int)) : Option ((List (List Int))) := spec_sgTurn.l0 k l0 ([] : List (List Int)) (l0.length : Int) 0
set_option maxHeartbeats 8000000 in
set_option maxRecDepth 100000 in
theorem spec_sgTurn.calls (k : Nat) (A0 : Option Addr) (c0 : Nat) (l0 : List (List Int)) (r : List (List Int)) (w : World) (hr0 : Kd.C (Kd.slice 3 (Kd.int .i64)) w A0 l0.length l0) (hc0 : l0.length ≤ c0) (h : spec_sgTurn.f k l0 = some r) :
  Calls Try.prog 41 #[.slice A0 l0.length c0] w fun e w' => ∃ v0_ : Value, e = .returned (v0_) ∧ Kd.S (Kd.slice 3 (Kd.int .i64)) 41 w' w.heap.size (fun _ => True) v0_ r ∧ Below w.heap.size w w' := by
 have HR0 := Aside0.mk hr0
 have HC0 := Aside0.mk hc0
 clear hr0 hc0
 have HB := Aside0.mk (Below.refl w.heap.size w)
 have H : (spec_sgTurn.l0 k l0 ([] : List (List Int)) (l0.length : Int) 0) = some r := h
 clear h
 have H' := Aside0.mk H
 clear H
 go_enter Try.func41, Try.ntmps41
 go_wp2
 go_loopg [3, 10] k (fun kq v3 v10 w' => ∃ (x3_1 : List (List Int)) (x10_1 : Int), v10 = .int .i64 x10_1 ∧ Aside0 (spec_sgTurn.l0 kq l0 x3_1 (l0.length : Int) x10_1 = some r) ∧ Aside0 (kq ≤ k) ∧ Aside0 (Kd.S (Kd.slice 3 (Kd.int .i64)) 41 w' w.heap.size (fun _ => True) v3 x3_1) ∧ Aside0 (Below w.heap.size w w'))
 case atStart => exact ⟨(([] : List (List Int))), (0), (by first | rfl | (simp; done) | (simp [*]; done)), H', ⟨Nat.le_refl _⟩, ⟨by first | exact Kd.S_nil _ _ _ _ _ | exact Kd.N_nil _ _ _ _ _ | exact Kd.V_nil _ _ _ _ _ | exact Kd.Q_nil _ _ _ _ _ | exact Kd.R_nil _ _ _ _ _⟩, ⟨by repeat (first | (with_reducible first | exact HB.out | apply below_alloc | apply pw_below_drewN | apply below_drew1) | exact HB.out)⟩⟩
 case round =>
  clear H'
  obtain ⟨x3_1, x10_1, rfl, HA, HK1, HO_3, HB⟩ := hrel
  cases gk with
  | zero => exact absurd HA.out (by simp [spec_sgTurn.l0])
  | succ k1 =>
   have H := HA.out
   clear HA
   simp only [spec_sgTurn.l0] at H
   by_cases c2 : x10_1 < (l0.length : Int)
   ·rw [if_pos c2] at H
    have c2b0 : decide (x10_1 < (l0.length : Int)) = true := decide_eq_true c2
    clear c2
    have H' := Aside0.mk H
    clear H
    go_wp2
    go_loopg [5, 15] k1 (fun kq v5 v15 w' => ∃ (x5_2 : List Int) (x15_2 : Int), v15 = .int .i64 x15_2 ∧ Aside0 (spec_sgTurn.l1 kq l0 x3_1 x10_1 x5_2 (l0.length : Int) x10_1 l0 (l0.length : Int) x15_2 = some r) ∧ Aside0 (kq ≤ k1) ∧ Aside0 (Kd.S (Kd.slice 3 (Kd.int .i64)) 41 w' w.heap.size (fun k_ => some k_ ≠ (v5 : Value).ownBlock) u3 x3_1) ∧ Aside0 (Kd.R (Kd.int .i64) 3 w' w.heap.size (fun _ => True) v5 x5_2) ∧ Aside0 (Below w.heap.size w w'))
    case atStart => exact ⟨(([] : List Int)), (0), (by first | rfl | (simp; done) | (simp [*]; done)), H', ⟨Nat.le_refl _⟩, ⟨by (with_reducible repeat (first | apply Kd.S_alloc | apply Kd.S_drewN | apply Kd.S_drew)); exact Kd.S_mono HO_3.out (fun _ hk => (by simp [Value.ownBlock]))⟩, ⟨by first | exact Kd.R_nil _ _ _ _ _ | exact Kd.N_nil _ _ _ _ _ | exact Kd.V_nil _ _ _ _ _ | exact Kd.Q_nil _ _ _ _ _ | exact Kd.S_nil _ _ _ _ _⟩, ⟨by repeat (first | (with_reducible first | exact HB.out | apply below_alloc | apply pw_below_drewN | apply below_drew1) | exact HB.out)⟩⟩
    case round =>
     clear H'
     try clear c2
     try clear c2b0
     try clear p2
     obtain ⟨x5_2, x15_2, rfl, HA, HK2, HO_3, HO_5, HB⟩ := hrel
     cases gk with
     | zero => exact absurd HA.out (by simp [spec_sgTurn.l1])
     | succ k2 =>
      have H := HA.out
      clear HA
      simp only [spec_sgTurn.l1] at H
      by_cases c3 : x15_2 < (l0.length : Int)
      ·rw [if_pos c3] at H
       have c3b0 : decide (x15_2 < (l0.length : Int)) = true := decide_eq_true c3
       clear c3
       by_cases c4 : 0 ≤ x15_2
       ·rw [if_pos c4] at H
        have c4b0 : decide (0 ≤ x15_2) = true := decide_eq_true c4
        clear c4
        by_cases c5 : x15_2 < (l0.length : Int)
        ·rw [if_pos c5] at H
         have c5b0 : decide (x15_2 < (l0.length : Int)) = true := decide_eq_true c5
         clear c5
         by_cases c6 : 0 ≤ x10_1
         ·rw [if_pos c6] at H
          have c6b0 : decide (0 ≤ x10_1) = true := decide_eq_true c6
          clear c6
          by_cases c7 : x10_1 < ((rd_L1 l0 x15_2).length : Int)
          ·rw [if_pos c7] at H
           have c7b0 : decide (x10_1 < ((rd_L1 l0 x15_2).length : Int)) = true := decide_eq_true c7
           clear c7
           by_cases c8 : x5_2.length < 17592186044416
           ·rw [if_pos c8] at H
            have LMc8 := Aside0.mk c8
            clear c8
            obtain ⟨y111, hy111⟩ : ∃ y_ : List Int, y_ = (x5_2 ++ [rd (rd_L1 l0 x15_2) x10_1]) := ⟨_, rfl⟩
            replace H : (spec_sgTurn.l1 k2 l0 x3_1 x10_1 y111 (l0.length : Int) x10_1 l0 (l0.length : Int) (wrap64 (x15_2 + 1))) = some r := by first | (rw [hy111]; with_reducible exact H) | (have H2_ := (Option.bind_some _ _).symm.trans H; rw [hy111]; with_reducible exact H2_) | (have H2_ := (Option.bind_some _ _).symm.trans H; with_reducible exact H2_) | with_reducible exact H | (rw [hy111]; exact H) | exact H
            have Ny111 := Aside0.mk hy111
            clear hy111
            have H' := Aside0.mk H
            clear H
            have p109 : 0 ≤ (x15_2 : Int) := of_decide_eq_true (by first | (with_reducible assumption) | assumption)
            have q109 : x15_2 < (l0.length : Int) := of_decide_eq_true (by first | (with_reducible assumption) | assumption)
            obtain ⟨ad109, A109_0, c109_0, e109, hx109_0, hl109_0, hi109_0⟩ := at_L1 HR0.out x15_2 p109 q109
            cases e109
            (try replace hx109_0 := (HB.out.cell (World.block_lt_of_cell? w _ hx109_0)).trans hx109_0)
            have HR109_0 := Aside0.mk hi109_0
            have HC109_0 := Aside0.mk hl109_0
            clear hi109_0 hl109_0
            replace p109 := eq_true p109
            replace q109 := eq_true q109
            have p110 : 0 ≤ (x10_1 : Int) := of_decide_eq_true (by first | (with_reducible assumption) | assumption)
            have q110 : x10_1 < ((rd_L1 l0 x15_2).length : Int) := of_decide_eq_true (by first | (with_reducible assumption) | assumption)
            obtain ⟨ad110, e110, hx110_0⟩ := Kd.at_int HR109_0.out x10_1 p110 q110
            cases e110
            (try replace hx110_0 := (HB.out.cell (World.block_lt_of_cell? w _ hx110_0)).trans hx110_0)
            replace p110 := eq_true p110
            replace q110 := eq_true q110
            go_wp2_with (first | ((with_reducible refine gate_builtin (b := .append) (xs := #[.tmp 19, .tmp 24]) rfl ?_); at_builtin; refine Kd.R_append (Kd.int .i64) (w0 := w) w.heap.size rfl (.tmp 19) (.tmp 24) 41 3 (.int .i64 0) 8 rfl Try.underlying41 info3 rfl (by decide) (by omega) u5 x5_2 (rd (rd_L1 l0 x15_2) x10_1) [.int .i64 (rd (rd_L1 l0 x15_2) x10_1)] (fun _ => True) (fun _ => False) rfl rfl ?aP (fun _ hk => hk.elim) ?aF ?aO ?aB ?aS ?aL ?_; (case aP => exact rfl); (case aB => exact (by repeat (first | (with_reducible first | exact HB.out | apply below_alloc | apply pw_below_drewN | apply below_drew1) | exact HB.out))); (case aF => exact (fun _ _ => trivial)); (case aO => exact (by (with_reducible repeat (first | apply Kd.R_alloc | apply Kd.R_drewN | apply Kd.R_drew)); exact HO_5.out)); (case aS => exact (below_size (by repeat (first | (with_reducible first | exact HB.out | apply below_alloc | apply pw_below_drewN | apply below_drew1) | exact HB.out)))); (case aL => have := LMc8.out; omega); intro v112 w9 ho hb hg hat; rw [← Ny111.out] at ho; have n0_ := Aside0.mk (Kd.S_after (ok := (fun _ => True)) (by (with_reducible repeat (first | apply Kd.S_alloc | apply Kd.S_drewN | apply Kd.S_drew)); exact Kd.S_mono HO_3.out (fun _ hk => ⟨trivial, hk⟩)) hg hat); have n1_ := Aside0.mk (hb); have n2_ := Aside0.mk (ho); clear HO_3; clear HB; clear HO_5; have HO_3 := n0_; have HB := n1_; have HO113 := n2_; clear n0_ n1_ n2_; clear ho hb hg hat))
            go_roundg k2
            case measure => have := HK1.out; have := HK2.out; omega
            case rel => exact ⟨(y111), (wrap64 (x15_2 + 1)), (by first | rfl | (simp; done) | (simp [*]; done)), H', ⟨by have := HK1.out; have := HK2.out; omega⟩, ⟨by (with_reducible repeat (first | apply Kd.S_alloc | apply Kd.S_drewN | apply Kd.S_drew)); exact Kd.S_mono HO_3.out (fun _ hk => hk.2)⟩, ⟨by (with_reducible repeat (first | apply Kd.R_alloc | apply Kd.R_drewN | apply Kd.R_drew)); exact HO113.out⟩, ⟨by repeat (first | (with_reducible first | exact HB.out | apply below_alloc | apply pw_below_drewN | apply below_drew1) | exact HB.out)⟩⟩
           ·rw [if_neg c8] at H
            exact absurd H (by simp)
          ·rw [if_neg c7] at H
           exact absurd H (by simp)
         ·rw [if_neg c6] at H
          exact absurd H (by simp)
        ·rw [if_neg c5] at H
         exact absurd H (by simp)
       ·rw [if_neg c4] at H
        exact absurd H (by simp)
      ·rw [if_neg c3] at H
       have c3b0 : decide (x15_2 < (l0.length : Int)) = false := decide_eq_false c3
       clear c3
       by_cases c10 : x3_1.length < 5864062014805
       ·rw [if_pos c10] at H
        have LMc10 := Aside0.mk c10
        clear c10
        obtain ⟨y114, hy114⟩ : ∃ y_ : List (List Int), y_ = (x3_1 ++ [x5_2]) := ⟨_, rfl⟩
        replace H : (spec_sgTurn.l0 k2 l0 y114 (l0.length : Int) (wrap64 (x10_1 + 1))) = some r := by first | (rw [hy114]; with_reducible exact H) | (have H2_ := (Option.bind_some _ _).symm.trans H; rw [hy114]; with_reducible exact H2_) | (have H2_ := (Option.bind_some _ _).symm.trans H; with_reducible exact H2_) | with_reducible exact H | (rw [hy114]; exact H) | exact H
        have Ny114 := Aside0.mk hy114
        clear hy114
        have H' := Aside0.mk H
        clear H
        obtain ⟨Ao12, co12, eo12⟩ := Kd.R_slice HO_5.out
        subst eo12
        go_wp2_with (first | ((with_reducible refine gate_builtin (b := .append) (xs := #[.tmp 27, .tmp 29]) rfl ?_); at_builtin; refine Kd.S_append (Kd.slice 3 (Kd.int .i64)) (w0 := w) w.heap.size rfl (.tmp 27) (.tmp 29) 22 41 (.slice none 0 0) 24 rfl Try.underlying22 info41 rfl (by decide) (by omega) u3 x3_1 x5_2 [.slice Ao12 x5_2.length co12] (fun _ => True) (fun k_ => some k_ = (.slice Ao12 x5_2.length co12 : Value).ownBlock) rfl rfl ?aP (fun k_ hk_ => ((Kd.R_mono (ok' := fun k_ => ((fun _ => True)) k_ ∧ some k_ ≠ (u3 : Value).ownBlock) (Kd.R_apart' (HO_5.out) (Kd.S_typed HO_3.out) (by decide)) (fun k_ hk => ⟨trivial, hk.2⟩))).1 k_ hk_.symm) ?aF ?aO ?aB ?aS ?aL ?_; (case aP => exact Kd.M_row (Kd.R_mono (Kd.R_tight rfl (Kd.R_mono (ok' := fun k_ => ((fun _ => True)) k_ ∧ some k_ ≠ (u3 : Value).ownBlock) (Kd.R_apart' (HO_5.out) (Kd.S_typed HO_3.out) (by decide)) (fun k_ hk => ⟨trivial, hk.2⟩))) (fun _ h_ => h_))); (case aB => exact (by repeat (first | (with_reducible first | exact HB.out | apply below_alloc | apply pw_below_drewN | apply below_drew1) | exact HB.out))); (case aF => exact (fun _ _ => trivial)); (case aO => exact (by (with_reducible repeat (first | apply Kd.S_alloc | apply Kd.S_drewN | apply Kd.S_drew)); exact Kd.S_mono HO_3.out (fun k_ hk => ⟨trivial, fun e_ => hk e_⟩))); (case aS => exact (below_size (by repeat (first | (with_reducible first | exact HB.out | apply below_alloc | apply pw_below_drewN | apply below_drew1) | exact HB.out)))); (case aL => have := LMc10.out; omega); intro v115 w11 ho hb hg hat; rw [← Ny114.out] at ho; have n0_ := Aside0.mk (hb); have n1_ := Aside0.mk (ho); clear HB; clear HO_3; clear HO_5; have HB := n0_; have HO116 := n1_; clear n0_ n1_; clear ho hb hg hat))
        go_roundg k2
        case measure => have := HK1.out; have := HK2.out; omega
        case rel => exact ⟨(y114), (wrap64 (x10_1 + 1)), (by first | rfl | (simp; done) | (simp [*]; done)), H', ⟨by have := HK1.out; have := HK2.out; omega⟩, ⟨by (with_reducible repeat (first | apply Kd.S_alloc | apply Kd.S_drewN | apply Kd.S_drew)); exact HO116.out⟩, ⟨by repeat (first | (with_reducible first | exact HB.out | apply below_alloc | apply pw_below_drewN | apply below_drew1) | exact HB.out)⟩⟩
       ·rw [if_neg c10] at H
        exact absurd H (by simp)
   ·rw [if_neg c2] at H
    have c2b0 : decide (x10_1 < (l0.length : Int)) = false := decide_eq_false c2
    clear c2
    obtain rfl := Option.some.inj H
    go_wp2
    go_ret
    exact ⟨_, by first | rfl | (simp [errW_none, errW_some] <;> rfl) | (simp [*, errW_none, errW_some] <;> rfl), by (with_reducible repeat (first | apply Kd.S_alloc | apply Kd.S_drewN | apply Kd.S_drew)); exact HO_3.out, by repeat (first | (with_reducible first | exact HB.out | apply below_alloc | apply pw_below_drewN | apply below_drew1) | exact HB.out)⟩

end Go.Proofs.Ytbihfdadnkmckaa.P

namespace Go.Proofs.Ytbihfdadnkmckaa.P
open Go.RowKit Go.Proofs.YtbihfdadnkmckaaW.PrintWords Go.Proofs.YtbihfdadnkmckaaW.PrintLast Go.Proofs.YtbihfdadnkmckaaW.PrintMore
attribute [local go_sem] max2_int min2_int max_two min_two max_three min_three max_four min_four   -- for this text's walks alone
set_option linter.unusedVariables false
set_option linter.unusedSimpArgs false

def spec_sgGood.f (k : Nat) (l0 : List (List Int)) : Option (Bool) := (spec_sgSquare.f k l0).bind fun t117 => (if t117 = true then ((spec_sgRows.f k l0).bind fun t118 => (if t118 = true then ((spec_sgTurn.f k l0).bind fun t119 => ((spec_sgRows.f k t119).bind fun t122 => (some t122))) else (some false))) else (some false))
set_option maxHeartbeats 8000000 in
set_option maxRecDepth 100000 in
theorem spec_sgGood.calls (k : Nat) (A0 : Option Addr) (c0 : Nat) (l0 : List (List Int)) (r : Bool) (w : World) (hr0 : Kd.C (Kd.slice 3 (Kd.int .i64)) w A0 l0.length l0) (hc0 : l0.length ≤ c0) (h : spec_sgGood.f k l0 = some r) :
  Calls Try.prog 23 #[.slice A0 l0.length c0] w fun e w' => e = .returned (.bool r) ∧ Below w.heap.size w w' := by
 have HR0 := Aside0.mk hr0
 have HC0 := Aside0.mk hc0
 clear hr0 hc0
 have HB := Aside0.mk (Below.refl w.heap.size w)
 have H : ((spec_sgSquare.f k l0).bind fun t117 => (if t117 = true then ((spec_sgRows.f k l0).bind fun t118 => (if t118 = true then ((spec_sgTurn.f k l0).bind fun t119 => ((spec_sgRows.f k t119).bind fun t122 => (some t122))) else (some false))) else (some false))) = some r := h
 clear h
 replace H := Option.bind_eq_some_iff.mp H
 obtain ⟨t117, A20, H⟩ := H
 replace H : (if t117 = true then ((spec_sgRows.f k l0).bind fun t118 => (if t118 = true then ((spec_sgTurn.f k l0).bind fun t119 => ((spec_sgRows.f k t119).bind fun t122 => (some t122))) else (some false))) else (some false)) = some r := H
 have A2 := Aside0.mk A20
 clear A20
 by_cases c3 : t117 = true
 ·subst c3
  have H1 : ((spec_sgRows.f k l0).bind fun t118 => (if t118 = true then ((spec_sgTurn.f k l0).bind fun t119 => ((spec_sgRows.f k t119).bind fun t122 => (some t122))) else (some false))) = some r := by rw [if_pos rfl] at H; exact H
  clear H
  have H := H1
  clear H1
  replace H := Option.bind_eq_some_iff.mp H
  obtain ⟨t118, A40, H⟩ := H
  replace H : (if t118 = true then ((spec_sgTurn.f k l0).bind fun t119 => ((spec_sgRows.f k t119).bind fun t122 => (some t122))) else (some false)) = some r := H
  have A4 := Aside0.mk A40
  clear A40
  by_cases c5 : t118 = true
  ·subst c5
   have H1 : ((spec_sgTurn.f k l0).bind fun t119 => ((spec_sgRows.f k t119).bind fun t122 => (some t122))) = some r := by rw [if_pos rfl] at H; exact H
   clear H
   have H := H1
   clear H1
   replace H := Option.bind_eq_some_iff.mp H
   obtain ⟨t119, A60, H⟩ := H
   replace H : ((spec_sgRows.f k t119).bind fun t122 => (some t122)) = some r := H
   have A6 := Aside0.mk A60
   clear A60
   replace H := Option.bind_eq_some_iff.mp H
   obtain ⟨t122, A70, H⟩ := H
   replace H : (some t122) = some r := H
   have A7 := Aside0.mk A70
   clear A70
   obtain rfl := Option.some.inj H
   go_enter Try.func23, Try.ntmps23
   go_wp2_with (first | ((with_reducible refine gate_callee (f := 39) rfl ?_); refine goesL_ (some 4) rfl rfl Try.func39 (by kernel_rfl) rfl #[.slice A0 l0.length c0] rfl (by (try simp only [List.map_toArray, List.map_cons, List.map_nil]); first | done | rfl | (simp only [List.length_drop, List.length_take]; rfl)) ?_; (with_reducible refine (spec_sgSquare.calls k _ _ l0 true _ ?side1 ?side2 A2.out).mono ?_); (case side1 => repeat (first | exact HR0.out | (with_reducible refine Kd.C_alloc ?_ _) | (with_reducible refine Kd.C_drewN ?_ _) | (with_reducible refine Kd.C_drew ?_))); (case side2 => exact HC0.out); rintro e w' ⟨rfl, ⟨nd, rfl⟩⟩; refine ⟨_, rfl, ?_⟩) | (go_at_call 40; (with_reducible refine (spec_sgRows.calls k _ _ l0 true _ ?side1 ?side2 A4.out).mono ?_); (case side1 => repeat (first | exact HR0.out | (with_reducible refine Kd.C_alloc ?_ _) | (with_reducible refine Kd.C_drewN ?_ _) | (with_reducible refine Kd.C_drew ?_))); (case side2 => exact HC0.out); rintro e w' ⟨rfl, ⟨nd, rfl⟩⟩) | (go_at_call 41; (with_reducible refine (spec_sgTurn.calls k _ _ l0 t119 _ ?side1 ?side2 A6.out).mono ?_); (case side1 => repeat (first | exact HR0.out | (with_reducible refine Kd.C_alloc ?_ _) | (with_reducible refine Kd.C_drewN ?_ _) | (with_reducible refine Kd.C_drew ?_))); (case side2 => exact HC0.out); rintro e w8 ⟨v120, rfl, ho0, hb⟩; have n0_ := Aside0.mk (Kd.S_lower ho0 (below_size (by repeat (first | (with_reducible first | exact HB.out | apply below_alloc | apply pw_below_drewN | apply below_drew1) | exact HB.out)))); have n1_ := Aside0.mk (below_step (by repeat (first | (with_reducible first | exact HB.out | apply below_alloc | apply pw_below_drewN | apply below_drew1) | exact HB.out)) hb); clear HB; have HO121 := n0_; have HB := n1_; clear n0_ n1_; (try clear hb); (try clear hb2); (try clear hk); (try clear hi); (try clear ho0); obtain ⟨Ao9, co9, eo9⟩ := Kd.S_slice HO121.out; subst eo9) | (go_at_call 40; (with_reducible refine (spec_sgRows.calls k _ _ t119 t122 _ ?side1 ?side2 A7.out).mono ?_); (case side1 => repeat (first | exact (Kd.S_reads' HO121.out).2.2 | (with_reducible refine Kd.C_alloc ?_ _) | (with_reducible refine Kd.C_drewN ?_ _) | (with_reducible refine Kd.C_drew ?_))); (case side2 => exact (Kd.S_reads' HO121.out).2.1); rintro e w' ⟨rfl, ⟨nd, rfl⟩⟩))
   go_ret
   exact ⟨by first | rfl | (simp [errW_none, errW_some] <;> rfl) | (simp [*, errW_none, errW_some] <;> rfl), by repeat (first | (with_reducible first | exact HB.out | apply below_alloc | apply pw_below_drewN | apply below_drew1) | exact HB.out)⟩
  ·replace c5 := Bool.eq_false_iff.mpr c5
   subst c5
   have H1 : (some false) = some r := by rw [if_neg (show ¬ (false = true) by decide)] at H; exact H
   clear H
   have H := H1
   clear H1
   obtain rfl := Option.some.inj H
   go_enter Try.func23, Try.ntmps23
   go_wp2_with (first | ((with_reducible refine gate_callee (f := 39) rfl ?_); refine goesL_ (some 4) rfl rfl Try.func39 (by kernel_rfl) rfl #[.slice A0 l0.length c0] rfl (by (try simp only [List.map_toArray, List.map_cons, List.map_nil]); first | done | rfl | (simp only [List.length_drop, List.length_take]; rfl)) ?_; (with_reducible refine (spec_sgSquare.calls k _ _ l0 true _ ?side1 ?side2 A2.out).mono ?_); (case side1 => repeat (first | exact HR0.out | (with_reducible refine Kd.C_alloc ?_ _) | (with_reducible refine Kd.C_drewN ?_ _) | (with_reducible refine Kd.C_drew ?_))); (case side2 => exact HC0.out); rintro e w' ⟨rfl, ⟨nd, rfl⟩⟩; refine ⟨_, rfl, ?_⟩) | (go_at_call 40; (with_reducible refine (spec_sgRows.calls k _ _ l0 false _ ?side1 ?side2 A4.out).mono ?_); (case side1 => repeat (first | exact HR0.out | (with_reducible refine Kd.C_alloc ?_ _) | (with_reducible refine Kd.C_drewN ?_ _) | (with_reducible refine Kd.C_drew ?_))); (case side2 => exact HC0.out); rintro e w' ⟨rfl, ⟨nd, rfl⟩⟩))
   go_ret
   exact ⟨by first | rfl | (simp [errW_none, errW_some] <;> rfl) | (simp [*, errW_none, errW_some] <;> rfl), by repeat (first | (with_reducible first | exact HB.out | apply below_alloc | apply pw_below_drewN | apply below_drew1) | exact HB.out)⟩
 ·replace c3 := Bool.eq_false_iff.mpr c3
  subst c3
  have H1 : (some false) = some r := by rw [if_neg (show ¬ (false = true) by decide)] at H; exact H
  clear H
  have H := H1
  clear H1
  obtain rfl := Option.some.inj H
  go_enter Try.func23, Try.ntmps23
  go_wp2_with (first | ((with_reducible refine gate_callee (f := 39) rfl ?_); refine goesL_ (some 4) rfl rfl Try.func39 (by kernel_rfl) rfl #[.slice A0 l0.length c0] rfl (by (try simp only [List.map_toArray, List.map_cons, List.map_nil]); first | done | rfl | (simp only [List.length_drop, List.length_take]; rfl)) ?_; (with_reducible refine (spec_sgSquare.calls k _ _ l0 false _ ?side1 ?side2 A2.out).mono ?_); (case side1 => repeat (first | exact HR0.out | (with_reducible refine Kd.C_alloc ?_ _) | (with_reducible refine Kd.C_drewN ?_ _) | (with_reducible refine Kd.C_drew ?_))); (case side2 => exact HC0.out); rintro e w' ⟨rfl, ⟨nd, rfl⟩⟩; refine ⟨_, rfl, ?_⟩))
  go_ret
  exact ⟨by first | rfl | (simp [errW_none, errW_some] <;> rfl) | (simp [*, errW_none, errW_some] <;> rfl), by repeat (first | (with_reducible first | exact HB.out | apply below_alloc | apply pw_below_drewN | apply below_drew1) | exact HB.out)⟩

end Go.Proofs.Ytbihfdadnkmckaa.P

namespace Go.Proofs.Ytbihfdadnkmckaa.L
open Go.RowKit Go.Proofs.Ytbihfdadnkmckaa Go.Proofs.Ytbihfdadnkmckaa.P Go.Proofs.YtbihfdadnkmckaaW.PrintWords Go.Proofs.YtbihfdadnkmckaaW.PrintLast Go.Proofs.YtbihfdadnkmckaaW.PrintMore

theorem l1In_eq (a b c : Int) : spec_l1In.f a b c = some (inB a b c) := by
 unfold spec_l1In.f inB
 by_cases h : a ≥ b
 ·rw [if_pos h]; simp [show b ≤ a from h]
 ·rw [if_neg h]; simp [show ¬ b ≤ a from h]
theorem sgSquare_l0 (l : List (List Int)) (hl : l.length ≤ 1048576) : ∀ (d i : Nat), i + d = l.length → Ev (fun k => spec_sgSquare.l0 k l l l.length i) ((l.drop i).all fun r => r.length == l.length) := by
 intro d
 induction d with
 | zero =>
  intro i hi
  refine Ev.step (fun k => by rw [spec_sgSquare.l0]) ?_
  rw [List.drop_eq_nil_of_le (by omega)]
  exact Ev.ite_neg (by omega) (Ev.now _)
 | succ d ih =>
  intro i hi
  refine Ev.step (fun k => by rw [spec_sgSquare.l0]) ?_
  refine Ev.ite_pos (by omega) (Ev.ite_pos (by omega) (Ev.ite_pos (by omega) ?_))
  rw [rd1_at l i (by omega), List.drop_eq_getElem_cons (by omega), List.all_cons]
  by_cases h : l[i].length = l.length
  ·refine Ev.ite_pos (by omega) ?_
   rw [wrapS i (by omega), beq_iff_eq.2 h, Bool.true_and]
   exact ih (i + 1) (by omega)
  ·rw [beq_eq_false_iff_ne.2 h, Bool.false_and]
   exact Ev.ite_neg (by omega) (Ev.now _)
theorem sgRows_l1 (T : List (List Int)) (i : Nat) (row : List Int) (hl : row.length ≤ 1048576) (b : Bool) (hb : Ev (fun k => spec_sgRows.l0 k T T.length (wrap64 ((i : Int) + 1))) b) :
  ∀ (d j : Nat) (s : Int), j + d = row.length → 0 ≤ s → s ≤ 1 → Ev (fun k => spec_sgRows.l1 k s T T.length i row row.length j) (altFrom (row.drop j) s && b) := by
 intro d
 induction d with
 | zero =>
  intro j s hj h0 h1
  refine Ev.step (fun k => by rw [spec_sgRows.l1]) ?_
  rw [List.drop_eq_nil_of_le (by omega), altFrom]
  refine Ev.ite_neg (by omega) ?_
  by_cases h : s = 1
  ·refine Ev.ite_pos h ?_
   rw [beq_iff_eq.2 h, Bool.true_and]
   exact hb
  ·rw [beq_eq_false_iff_ne.2 h, Bool.false_and]
   exact Ev.ite_neg h (Ev.now _)
 | succ d ih =>
  intro j s hj h0 h1
  refine Ev.step (fun k => by rw [spec_sgRows.l1]) ?_
  refine Ev.ite_pos (by omega) (Ev.ite_pos (by omega) (Ev.ite_pos (by omega) ?_))
  rw [l1In_eq]
  simp only [Option.bind_some]
  cases h : inB (rd row j) (-1) 1 with
  | false =>
   rw [altFrom_false1 row j (by omega) s h, Bool.false_and]
   exact Ev.ite_neg (by simp) (Ev.now _)
  | true =>
   have hr := (inB_iff _ _ _).1 h
   rw [altFrom_step row j (by omega) s h]
   refine Ev.ite_pos rfl ?_
   have hw : wrap64 (s + rd row j) = s + rd row j := wrapI _ (by omega) (by omega)
   rw [l1In_eq, hw]
   simp only [Option.bind_some]
   cases h2 : inB (s + rd row j) 0 1 with
   | false =>
    rw [Bool.false_and, Bool.false_and]
    exact Ev.ite_neg (by simp) (Ev.now _)
   | true =>
    have hr2 := (inB_iff _ _ _).1 h2
    rw [Bool.true_and, wrapS j (by omega)]
    exact Ev.ite_pos rfl (ih (j + 1) _ (by omega) hr2.1 hr2.2)
theorem sgRows_l0 (T : List (List Int)) (hT : fewRows T) : ∀ (d i : Nat), i + d = T.length → Ev (fun k => spec_sgRows.l0 k T T.length i) ((T.drop i).all altB) := by
 intro d
 induction d with
 | zero =>
  intro i hi
  refine Ev.step (fun k => by rw [spec_sgRows.l0]) ?_
  rw [List.drop_eq_nil_of_le (by omega)]
  exact Ev.ite_neg (by omega) (Ev.now _)
 | succ d ih =>
  intro i hi
  refine Ev.step (fun k => by rw [spec_sgRows.l0]) ?_
  refine Ev.ite_pos (by omega) (Ev.ite_pos (by omega) (Ev.ite_pos (by omega) ?_))
  rw [rd1_at T i (by omega), List.drop_eq_getElem_cons (by omega), List.all_cons]
  have hn := hT.1
  exact sgRows_l1 T i T[i] (hT.2 _ (List.getElem_mem (by omega))) _ (by rw [wrapS i (by omega)]; exact ih (i + 1) (by omega)) T[i].length 0 0 (by omega) (by omega) (by omega)
theorem sgRows_ev (T : List (List Int)) (hT : fewRows T) : Ev (fun k => spec_sgRows.f k T) (T.all altB) := sgRows_l0 T hT T.length 0 (by omega)

theorem sgTurn_l1 (m : List (List Int)) (hn : m.length ≤ 6) (h3 : ∀ i, i < m.length → (m.getD i []).length = m.length) (acc : List (List Int)) (j : Nat) (hj : j < m.length) (x9 x10 : Int) (hx10 : x10 = j) (r : List (List Int))
  (hr : Ev (fun k => spec_sgTurn.l0 k m (acc ++ [colL m j]) x9 (wrap64 ((j : Int) + 1))) r) (hacc : acc.length ≤ 6) :
  ∀ (d i : Nat), i + d = m.length → Ev (fun k => spec_sgTurn.l1 k m acc j (colTo m j i) x9 x10 m m.length i) r := by
 intro d
 induction d with
 | zero =>
  intro i hi
  refine Ev.step (fun k => by rw [spec_sgTurn.l1]) ?_
  refine Ev.ite_neg (by omega) (Ev.ite_pos (by omega) ?_)
  have hi2 : i = m.length := by omega
  subst hi2
  rw [hx10]
  exact hr
 | succ d ih =>
  intro i hi
  refine Ev.step (fun k => by rw [spec_sgTurn.l1]) ?_
  have hri : rd_L1 m (i : Int) = m.getD i [] := by rw [rd1_at m i (by omega), List.getD_eq_getElem?_getD, List.getElem?_eq_getElem (by omega)]; rfl
  rw [hri]
  refine Ev.ite_pos (by omega) (Ev.ite_pos (by omega) (Ev.ite_pos (by omega) (Ev.ite_pos (by omega) (Ev.ite_pos (by rw [h3 i (by omega)]; omega) (Ev.ite_pos (by rw [colTo_length]; omega) ?_)))))
  rw [wrapS i (by omega), ← colTo_succ]
  exact ih (i + 1) (by omega)
theorem sgTurn_l0 (m : List (List Int)) (hn : m.length ≤ 6) (h3 : ∀ i, i < m.length → (m.getD i []).length = m.length) :
  ∀ (d j : Nat), j + d = m.length → Ev (fun k => spec_sgTurn.l0 k m ((List.range j).map (colL m)) m.length j) ((List.range m.length).map (colL m)) := by
 intro d
 induction d with
 | zero =>
  intro j hj
  refine Ev.step (fun k => by rw [spec_sgTurn.l0]) ?_
  have hi2 : j = m.length := by omega
  subst hi2
  exact Ev.ite_neg (by omega) (Ev.now _)
 | succ d ih =>
  intro j hj
  refine Ev.step (fun k => by rw [spec_sgTurn.l0]) ?_
  refine Ev.ite_pos (by omega) ?_
  refine sgTurn_l1 m hn h3 _ j (by omega) _ _ rfl _ ?_ (by simp; omega) m.length 0 (by omega)
  have e : (List.range j).map (colL m) ++ [colL m j] = (List.range (j + 1)).map (colL m) := by simp [List.range_succ]
  rw [wrapS j (by omega), e]
  exact ih (j + 1) (by omega)
theorem all_and {l : List Nat} (f g : Nat → Bool) : (l.all fun i => f i && g i) = (l.all f && l.all g) := by
 induction l with
 | nil => rfl
 | cons a l ih => rw [List.all_cons, List.all_cons, List.all_cons, ih]; cases f a <;> cases g a <;> simp
theorem rows_all (m : List (List Int)) : ((List.range m.length).all fun i => altB (m.getD i [])) = m.all altB := by
 rw [Bool.eq_iff_iff, List.all_eq_true, List.all_eq_true]
 constructor
 ·intro h r hr
  obtain ⟨i, hi, rfl⟩ := List.mem_iff_getElem.1 hr
  have := h i (List.mem_range.2 hi)
  rwa [List.getD_eq_getElem?_getD, List.getElem?_eq_getElem hi] at this
 ·intro h i hi
  have hi2 := List.mem_range.1 hi
  rw [List.getD_eq_getElem?_getD, List.getElem?_eq_getElem hi2]
  exact h _ (List.getElem_mem hi2)
theorem isSign_eq (m : List (List Int)) : isSign m = (inB m.length 1 6 && (squareB m && (m.all altB && ((List.range m.length).map (colL m)).all altB))) := by
 unfold isSign signsFrom
 rw [Nat.sub_zero, ← List.range_eq_range', all_and, rows_all, List.all_map]; rfl
theorem sgGood_ev (m : List (List Int)) (hm : fewRows m) : Ev (fun k => spec_sgGood.f k m) (isSign m) := by
 unfold spec_sgGood.f spec_sgSquare.f
 rw [isSign_eq, l1In_eq]
 simp only [Option.bind_some]
 cases h1 : inB (m.length : Int) 1 6 with
 | false => exact Ev.now _
 | true =>
  have hb := (inB_iff _ _ _).1 h1
  have hn := hm.1
  refine Ev.bind (a := squareB m) ?_ ?_
  ·have := sgSquare_l0 m hn m.length 0 (by omega)
   simpa [squareB] using this
  ·cases h2 : squareB m with
   | false => exact Ev.now _
   | true =>
    have h3 : ∀ i, i < m.length → (m.getD i []).length = m.length := fun i hi => by
     rw [List.getD_eq_getElem?_getD, List.getElem?_eq_getElem hi]
     exact beq_iff_eq.1 (List.all_eq_true.1 h2 _ (List.getElem_mem hi))
    refine Ev.ite_pos rfl (Ev.bind (sgRows_ev m hm) ?_)
    cases h4 : m.all altB with
    | false => exact Ev.now _
    | true =>
     refine Ev.ite_pos rfl (Ev.bind (sgTurn_l0 m (by omega) h3 m.length 0 (by omega)) ?_)
     rw [Bool.true_and, Bool.true_and, Bool.true_and]
     refine (Ev.bind (sgRows_ev _ ⟨by simp; omega, fun r hr => ?_⟩) (Ev.now _))
     obtain ⟨j, _, rfl⟩ := List.mem_map.1 hr
     rw [colL_length]; omega
end Go.Proofs.Ytbihfdadnkmckaa.L
