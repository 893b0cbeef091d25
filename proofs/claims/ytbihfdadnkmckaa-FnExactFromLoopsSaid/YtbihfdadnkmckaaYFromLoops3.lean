/- Texts of one chain, in build order. -/
import Derived.Test.YtbihfdadnkmckaaYFromLoops2
namespace Go.Proofs.Ytbihfdadnkmckaa.P
open Go.RowKit Go.Proofs.YtbihfdadnkmckaaW.PrintWords Go.Proofs.YtbihfdadnkmckaaW.PrintLast Go.Proofs.YtbihfdadnkmckaaW.PrintMore
attribute [local go_sem] max2_int min2_int max_two min_two max_three min_three max_four min_four   -- for this text's walks alone
set_option linter.unusedVariables false
set_option linter.unusedSimpArgs false

mutual
def spec_loShape.j0 : Nat → Bool → Int → List (List Int) → List (List Int) → Option (Bool)
 | 0, _, _, _, _ => none
 | k + 1, x27, x231000, x231001, x231002 => if x27 = true then (some false) else (spec_loShape.l0 k x231001 (x231001.length : Int) 0 x231000 x231001 x231002)
def spec_loShape.l0 : Nat → List (List Int) → Int → Int → Int → List (List Int) → List (List Int) → Option (Bool)
 | 0, _, _, _, _, _, _ => none
 | k + 1, x29, x30, x31, x231000, x231001, x231002 => if x31 < x30 then (if 0 ≤ x31 then (if x31 < (x29.length : Int) then (if ((rd_L1 x29 x31).length : Int) = (wrap64 (x231000 + 1)) then ((spec_l1All.f k (rd_L1 x29 x31) 0 1).bind fun t233 => (if t233 = true then (spec_loShape.l0 k x29 x30 (wrap64 (x31 + 1)) x231000 x231001 x231002) else (some false))) else (some false)) else (none)) else (none)) else (spec_loShape.l1 k x231002 (x231002.length : Int) 0 x231000 x231001 x231002)
def spec_loShape.l1 : Nat → List (List Int) → Int → Int → Int → List (List Int) → List (List Int) → Option (Bool)
 | 0, _, _, _, _, _, _ => none
 | k + 1, x48, x49, x50, x231000, x231001, x231002 => if x50 < x49 then (if 0 ≤ x50 then (if x50 < (x48.length : Int) then (if ((rd_L1 x48 x50).length : Int) = x231000 then ((spec_l1All.f k (rd_L1 x48 x50) 0 1).bind fun t235 => (if t235 = true then (spec_loShape.l1 k x48 x49 (wrap64 (x50 + 1)) x231000 x231001 x231002) else (some false))) else (some false)) else (none)) else (none)) else (some true)
end
def spec_loShape.f (k : Nat) (a0_0 : Int) (l0_1 : List (List Int)) (l0_2 : List (List Int)) : Option (Bool) := (spec_l1In.f a0_0 1 6).bind fun t231 => (if t231 = true then (if (l0_1.length : Int) = a0_0 then (spec_loShape.j0 k ((l0_2.length : Int) != (wrap64 (a0_0 + 1))) a0_0 l0_1 l0_2) else (spec_loShape.j0 k true a0_0 l0_1 l0_2)) else (spec_loShape.j0 k true a0_0 l0_1 l0_2))
set_option maxHeartbeats 8000000 in
set_option maxRecDepth 100000 in
theorem spec_loShape.calls (k : Nat) (a0_0 : Int) (A0_1 : Option Addr) (c0_1 : Nat) (l0_1 : List (List Int)) (A0_2 : Option Addr) (c0_2 : Nat) (l0_2 : List (List Int)) (r : Bool) (w : World) (hr0_1 : Kd.C (Kd.slice 3 (Kd.int .i64)) w A0_1 l0_1.length l0_1) (hc0_1 : l0_1.length ≤ c0_1) (hr0_2 : Kd.C (Kd.slice 3 (Kd.int .i64)) w A0_2 l0_2.length l0_2) (hc0_2 : l0_2.length ≤ c0_2) (h : spec_loShape.f k a0_0 l0_1 l0_2 = some r) :
  Calls Try.prog 49 #[.agg #[.int .i64 a0_0, .slice A0_1 l0_1.length c0_1, .slice A0_2 l0_2.length c0_2]] w fun e w' => e = .returned (.bool r) ∧ Below w.heap.size w w' := by
 have hu25 := Try.underlying25
 have HR0_1 := Aside0.mk hr0_1
 have HC0_1 := Aside0.mk hc0_1
 clear hr0_1 hc0_1
 have HR0_2 := Aside0.mk hr0_2
 have HC0_2 := Aside0.mk hc0_2
 clear hr0_2 hc0_2
 have HB := Aside0.mk (Below.refl w.heap.size w)
 have H : ((spec_l1In.f a0_0 1 6).bind fun t231 => (if t231 = true then (if (l0_1.length : Int) = a0_0 then (spec_loShape.j0 k ((l0_2.length : Int) != (wrap64 (a0_0 + 1))) a0_0 l0_1 l0_2) else (spec_loShape.j0 k true a0_0 l0_1 l0_2)) else (spec_loShape.j0 k true a0_0 l0_1 l0_2))) = some r := h
 clear h
 have HC2 := Aside0.mk H
 clear H
 go_enter Try.func49, Try.ntmps49
 go_upto_region 1 with (first | ((with_reducible refine gate_dst (N := 1) rfl ?_); (try (refine gate_guard (by rfl) ?_; dsimp only)); refine box_event ?hg (N := 1) ?hd (cs := #[.int .i64 a0_0, .slice A0_1 l0_1.length c0_1, .slice A0_2 l0_2.length c0_2]) (t := 25) ?hr ?_; (case hd => rfl); (case hg => rfl); (case hr => first | (go_simp; done) | (go_simp; rfl)); intro gb230 hg w3 hbox hb; have n0_ := Aside0.mk (below_step (by repeat (first | (with_reducible first | exact HB.out | apply below_alloc | apply pw_below_drewN | apply below_drew1) | exact HB.out)) hb); have n1_ := Aside0.mk (hbox); have n2_ := Aside0.mk ((by rw [hg]; exact (below_size (by repeat (first | (with_reducible first | exact HB.out | apply below_alloc | apply pw_below_drewN | apply below_drew1) | exact HB.out))) : w.heap.size ≤ gb230)); have n3_ := Aside0.mk ((by rw [hg]; exact (below_size (by repeat (first | (with_reducible first | exact HB.out | apply below_alloc | apply pw_below_drewN | apply below_drew1) | exact HB.out))) : w.heap.size ≤ gb230)); clear HB; have HB := n0_; have BK230 := n1_; have GW230 := n2_; have GE230 := n3_; clear n0_ n1_ n2_ n3_; clear hb hbox hg))
 (try simp only [Act.put, List.setIfInBounds_toArray, List.set_cons_zero, List.set_cons_succ])
 go_cut [27] (fun v27 wc => ∃ (kq : Nat) (x27_1 : Bool), v27 = .bool x27_1 ∧ Aside0 (spec_loShape.j0 kq x27_1 a0_0 l0_1 l0_2 = some r) ∧ Aside0 (kq ≤ k) ∧ Aside0 (wc.heap[gb230]? = some (.cells #[.int .i64 a0_0, (.slice A0_1 l0_1.length c0_1), (.slice A0_2 l0_2.length c0_2)] 25 (0, 0))) ∧ Aside0 (Below w.heap.size w wc))
 case first =>
  have H := HC2.out
  clear HC2
  replace H := Option.bind_eq_some_iff.mp H
  obtain ⟨t231, A40, H⟩ := H
  replace H : (if t231 = true then (if (l0_1.length : Int) = a0_0 then (spec_loShape.j0 k ((l0_2.length : Int) != (wrap64 (a0_0 + 1))) a0_0 l0_1 l0_2) else (spec_loShape.j0 k true a0_0 l0_1 l0_2)) else (spec_loShape.j0 k true a0_0 l0_1 l0_2)) = some r := H
  have A4 := Aside0.mk A40
  clear A40
  by_cases c5 : t231 = true
  ·subst c5
   have H1 : (if (l0_1.length : Int) = a0_0 then (spec_loShape.j0 k ((l0_2.length : Int) != (wrap64 (a0_0 + 1))) a0_0 l0_1 l0_2) else (spec_loShape.j0 k true a0_0 l0_1 l0_2)) = some r := by rw [if_pos rfl] at H; exact H
   clear H
   have H := H1
   clear H1
   by_cases c6 : (l0_1.length : Int) = a0_0
   ·rw [if_pos c6] at H
    have c6b0 : ((l0_1.length : Int) == a0_0) = true := beq_iff_eq.mpr c6
    have c6b1 : ((l0_1.length : Int) != a0_0) = false := bne_eq_false_iff_eq.mpr c6
    clear c6
    (try rw [c6b1])
    (first | rw [c6b0] | (simp only [i64_w, i32_w]; rw [c6b0]) | skip)
    have H' := Aside0.mk H
    clear H
    have hcz7_0 : w3.cell? ⟨gb230, 0, none⟩ = some (.int .i64 a0_0) := (blk_cell BK230.out 0).trans rfl
    have hcz7_1 : w3.cell? ⟨gb230, 1, none⟩ = some (.slice A0_1 l0_1.length c0_1) := (blk_cell BK230.out 1).trans rfl
    have hcz7_2 : w3.cell? ⟨gb230, 2, none⟩ = some (.slice A0_2 l0_2.length c0_2) := (blk_cell BK230.out 2).trans rfl
    have hfz7_0 := blk_frozen BK230.out 0
    have hfz7_1 := blk_frozen BK230.out 1
    have hfz7_2 := blk_frozen BK230.out 2
    go_wp2_with (first | ((with_reducible refine gate_callee (f := 57) rfl ?_); refine goesL_ (some 9) rfl rfl Try.func57 (by kernel_rfl) rfl #[.int .i64 a0_0, .int .i64 1, .int .i64 6] rfl (by (try simp only [List.map_toArray, List.map_cons, List.map_nil]); first | done | rfl | (simp only [List.length_drop, List.length_take]; rfl)) ?_; (with_reducible refine (spec_l1In.calls a0_0 1 6 true _ A4.out).mono ?_); rintro e w' ⟨rfl, ⟨nd, rfl⟩⟩; refine ⟨_, rfl, ?_⟩))
    go_meet
    case rel => exact ⟨_, (((l0_2.length : Int) != (wrap64 (a0_0 + 1)))), (by first | rfl | (simp; done) | (simp [*]; done)), H', ⟨by first | omega | exact Nat.le_refl _⟩, ⟨by (with_reducible repeat (first | refine blk_drewN ?_ _ | refine blk_drew ?_ | refine blk_alloc ?_ _)); exact BK230.out⟩, ⟨by repeat (first | (with_reducible first | exact HB.out | apply below_alloc | apply pw_below_drewN | apply below_drew1 | refine below_set ?_ GE230.out) | exact HB.out)⟩⟩
   ·rw [if_neg c6] at H
    have c6b0 : ((l0_1.length : Int) == a0_0) = false := beq_eq_false_iff_ne.mpr c6
    have c6b1 : ((l0_1.length : Int) != a0_0) = true := bne_iff_ne.mpr c6
    (try rw [c6b1])
    (first | rw [c6b0] | (simp only [i64_w, i32_w]; rw [c6b0]) | skip)
    have H' := Aside0.mk H
    clear H
    have hcz8_0 : w3.cell? ⟨gb230, 0, none⟩ = some (.int .i64 a0_0) := (blk_cell BK230.out 0).trans rfl
    have hcz8_1 : w3.cell? ⟨gb230, 1, none⟩ = some (.slice A0_1 l0_1.length c0_1) := (blk_cell BK230.out 1).trans rfl
    have hcz8_2 : w3.cell? ⟨gb230, 2, none⟩ = some (.slice A0_2 l0_2.length c0_2) := (blk_cell BK230.out 2).trans rfl
    have hfz8_0 := blk_frozen BK230.out 0
    have hfz8_1 := blk_frozen BK230.out 1
    have hfz8_2 := blk_frozen BK230.out 2
    go_wp2_with (first | ((with_reducible refine gate_callee (f := 57) rfl ?_); refine goesL_ (some 9) rfl rfl Try.func57 (by kernel_rfl) rfl #[.int .i64 a0_0, .int .i64 1, .int .i64 6] rfl (by (try simp only [List.map_toArray, List.map_cons, List.map_nil]); first | done | rfl | (simp only [List.length_drop, List.length_take]; rfl)) ?_; (with_reducible refine (spec_l1In.calls a0_0 1 6 true _ A4.out).mono ?_); rintro e w' ⟨rfl, ⟨nd, rfl⟩⟩; refine ⟨_, rfl, ?_⟩))
    go_meet
    case rel => exact ⟨_, (true), (by first | rfl | (simp; done) | (simp [*]; done)), H', ⟨by first | omega | exact Nat.le_refl _⟩, ⟨by (with_reducible repeat (first | refine blk_drewN ?_ _ | refine blk_drew ?_ | refine blk_alloc ?_ _)); exact BK230.out⟩, ⟨by repeat (first | (with_reducible first | exact HB.out | apply below_alloc | apply pw_below_drewN | apply below_drew1 | refine below_set ?_ GE230.out) | exact HB.out)⟩⟩
  ·replace c5 := Bool.eq_false_iff.mpr c5
   subst c5
   have H1 : (spec_loShape.j0 k true a0_0 l0_1 l0_2) = some r := by rw [if_neg (show ¬ (false = true) by decide)] at H; exact H
   clear H
   have H := H1
   clear H1
   have H' := Aside0.mk H
   clear H
   have hcz9_0 : w3.cell? ⟨gb230, 0, none⟩ = some (.int .i64 a0_0) := (blk_cell BK230.out 0).trans rfl
   have hcz9_1 : w3.cell? ⟨gb230, 1, none⟩ = some (.slice A0_1 l0_1.length c0_1) := (blk_cell BK230.out 1).trans rfl
   have hcz9_2 : w3.cell? ⟨gb230, 2, none⟩ = some (.slice A0_2 l0_2.length c0_2) := (blk_cell BK230.out 2).trans rfl
   have hfz9_0 := blk_frozen BK230.out 0
   have hfz9_1 := blk_frozen BK230.out 1
   have hfz9_2 := blk_frozen BK230.out 2
   go_wp2_with (first | ((with_reducible refine gate_callee (f := 57) rfl ?_); refine goesL_ (some 9) rfl rfl Try.func57 (by kernel_rfl) rfl #[.int .i64 a0_0, .int .i64 1, .int .i64 6] rfl (by (try simp only [List.map_toArray, List.map_cons, List.map_nil]); first | done | rfl | (simp only [List.length_drop, List.length_take]; rfl)) ?_; (with_reducible refine (spec_l1In.calls a0_0 1 6 false _ A4.out).mono ?_); rintro e w' ⟨rfl, ⟨nd, rfl⟩⟩; refine ⟨_, rfl, ?_⟩))
   go_meet
   case rel => exact ⟨_, (true), (by first | rfl | (simp; done) | (simp [*]; done)), H', ⟨by first | omega | exact Nat.le_refl _⟩, ⟨by (with_reducible repeat (first | refine blk_drewN ?_ _ | refine blk_drew ?_ | refine blk_alloc ?_ _)); exact BK230.out⟩, ⟨by repeat (first | (with_reducible first | exact HB.out | apply below_alloc | apply pw_below_drewN | apply below_drew1 | refine below_set ?_ GE230.out) | exact HB.out)⟩⟩
 case rest =>
  clear HC2
  try clear p2
  try clear c4
  try clear c5
  try clear c6
  try clear c6b0
  try clear c6b1
  try clear p6
  try clear hcz7_0
  try clear hcz7_1
  try clear hcz7_2
  try clear hcz8_0
  try clear hcz8_1
  try clear hcz8_2
  try clear hcz9_0
  try clear hcz9_1
  try clear hcz9_2
  try clear hfz7_0
  try clear hfz7_1
  try clear hfz7_2
  try clear hfz8_0
  try clear hfz8_1
  try clear hfz8_2
  try clear hfz9_0
  try clear hfz9_1
  try clear hfz9_2
  obtain ⟨kq, x27_1, rfl, HA, HJ1, BK230, HB⟩ := hcut
  cases kq with
  | zero => exact absurd HA.out (by simp [spec_loShape.j0])
  | succ kj1 =>
   have H := HA.out
   clear HA
   simp only [spec_loShape.j0] at H
   by_cases c10 : x27_1 = true
   ·subst c10
    have H1 : (some false) = some r := by rw [if_pos rfl] at H; exact H
    clear H
    have H := H1
    clear H1
    obtain rfl := Option.some.inj H
    go_wp2
    go_ret
    exact ⟨by first | rfl | (simp [errW_none, errW_some] <;> rfl) | (simp [*, errW_none, errW_some] <;> rfl), by repeat (first | (with_reducible first | exact HB.out | apply below_alloc | apply pw_below_drewN | apply below_drew1 | refine below_set ?_ GE230.out) | exact HB.out)⟩
   ·replace c10 := Bool.eq_false_iff.mpr c10
    subst c10
    have H1 : (spec_loShape.l0 kj1 l0_1 (l0_1.length : Int) 0 a0_0 l0_1 l0_2) = some r := by rw [if_neg (show ¬ (false = true) by decide)] at H; exact H
    clear H
    have H := H1
    clear H1
    have H' := Aside0.mk H
    clear H
    have hcz11_0 : wc.cell? ⟨gb230, 0, none⟩ = some (.int .i64 a0_0) := (blk_cell BK230.out 0).trans rfl
    have hcz11_1 : wc.cell? ⟨gb230, 1, none⟩ = some (.slice A0_1 l0_1.length c0_1) := (blk_cell BK230.out 1).trans rfl
    have hcz11_2 : wc.cell? ⟨gb230, 2, none⟩ = some (.slice A0_2 l0_2.length c0_2) := (blk_cell BK230.out 2).trans rfl
    have hfz11_0 := blk_frozen BK230.out 0
    have hfz11_1 := blk_frozen BK230.out 1
    have hfz11_2 := blk_frozen BK230.out 2
    go_wp2
    go_loopg [31] kj1 (fun kq v31 w' => ∃ (x31_2 : Int), v31 = .int .i64 x31_2 ∧ Aside0 (spec_loShape.l0 kq l0_1 (l0_1.length : Int) x31_2 a0_0 l0_1 l0_2 = some r) ∧ Aside0 (kq ≤ kj1) ∧ Aside0 (w'.heap[gb230]? = some (.cells #[.int .i64 a0_0, (.slice A0_1 l0_1.length c0_1), (.slice A0_2 l0_2.length c0_2)] 25 (0, 0))) ∧ Aside0 (Below w.heap.size w w'))
    case atStart => exact ⟨(0), (by first | rfl | (simp; done) | (simp [*]; done)), H', ⟨Nat.le_refl _⟩, ⟨by (with_reducible repeat (first | refine blk_drewN ?_ _ | refine blk_drew ?_ | refine blk_alloc ?_ _)); exact BK230.out⟩, ⟨by repeat (first | (with_reducible first | exact HB.out | apply below_alloc | apply pw_below_drewN | apply below_drew1 | refine below_set ?_ GE230.out) | exact HB.out)⟩⟩
    case round =>
     clear H'
     try clear c1
     try clear p2
     try clear c4
     try clear c5
     try clear c6
     try clear c6b0
     try clear c6b1
     try clear p6
     try clear c10
     try clear hcz11_0
     try clear hcz11_1
     try clear hcz11_2
     try clear hcz7_0
     try clear hcz7_1
     try clear hcz7_2
     try clear hcz8_0
     try clear hcz8_1
     try clear hcz8_2
     try clear hcz9_0
     try clear hcz9_1
     try clear hcz9_2
     try clear hfz11_0
     try clear hfz11_1
     try clear hfz11_2
     try clear hfz7_0
     try clear hfz7_1
     try clear hfz7_2
     try clear hfz8_0
     try clear hfz8_1
     try clear hfz8_2
     try clear hfz9_0
     try clear hfz9_1
     try clear hfz9_2
     try clear p2
     try clear p6
     obtain ⟨x31_2, rfl, HA, HK2, BK230, HB⟩ := hrel
     cases gk with
     | zero => exact absurd HA.out (by simp [spec_loShape.l0])
     | succ k2 =>
      have H := HA.out
      clear HA
      simp only [spec_loShape.l0] at H
      by_cases c12 : x31_2 < (l0_1.length : Int)
      ·rw [if_pos c12] at H
       have c12b0 : decide (x31_2 < (l0_1.length : Int)) = true := decide_eq_true c12
       clear c12
       by_cases c13 : 0 ≤ x31_2
       ·rw [if_pos c13] at H
        have c13b0 : decide (0 ≤ x31_2) = true := decide_eq_true c13
        clear c13
        by_cases c14 : x31_2 < (l0_1.length : Int)
        ·rw [if_pos c14] at H
         have c14b0 : decide (x31_2 < (l0_1.length : Int)) = true := decide_eq_true c14
         clear c14
         by_cases c15 : ((rd_L1 l0_1 x31_2).length : Int) = (wrap64 (a0_0 + 1))
         ·rw [if_pos c15] at H
          have c15b0 : (((rd_L1 l0_1 x31_2).length : Int) == (wrap64 (a0_0 + 1))) = true := beq_iff_eq.mpr c15
          have c15b1 : (((rd_L1 l0_1 x31_2).length : Int) != (wrap64 (a0_0 + 1))) = false := bne_eq_false_iff_eq.mpr c15
          clear c15
          replace H := Option.bind_eq_some_iff.mp H
          obtain ⟨t233, A160, H⟩ := H
          replace H : (if t233 = true then (spec_loShape.l0 k2 l0_1 (l0_1.length : Int) (wrap64 (x31_2 + 1)) a0_0 l0_1 l0_2) else (some false)) = some r := H
          have A16 := Aside0.mk A160
          clear A160
          by_cases c17 : t233 = true
          ·subst c17
           have H1 : (spec_loShape.l0 k2 l0_1 (l0_1.length : Int) (wrap64 (x31_2 + 1)) a0_0 l0_1 l0_2) = some r := by rw [if_pos rfl] at H; exact H
           clear H
           have H := H1
           clear H1
           have H' := Aside0.mk H
           clear H
           have p232 : 0 ≤ (x31_2 : Int) := of_decide_eq_true (by first | (with_reducible assumption) | assumption)
           have q232 : x31_2 < (l0_1.length : Int) := of_decide_eq_true (by first | (with_reducible assumption) | assumption)
           obtain ⟨ad232, A232_0, c232_0, e232, hx232_0, hl232_0, hi232_0⟩ := at_L1 HR0_1.out x31_2 p232 q232
           cases e232
           (try replace hx232_0 := (HB.out.cell (World.block_lt_of_cell? w _ hx232_0)).trans hx232_0)
           have HR232_0 := Aside0.mk hi232_0
           have HC232_0 := Aside0.mk hl232_0
           clear hi232_0 hl232_0
           replace p232 := eq_true p232
           replace q232 := eq_true q232
           have hcz18_0 : wr.cell? ⟨gb230, 0, none⟩ = some (.int .i64 a0_0) := (blk_cell BK230.out 0).trans rfl
           have hcz18_1 : wr.cell? ⟨gb230, 1, none⟩ = some (.slice (some ad232) l0_1.length c0_1) := (blk_cell BK230.out 1).trans rfl
           have hcz18_2 : wr.cell? ⟨gb230, 2, none⟩ = some (.slice A0_2 l0_2.length c0_2) := (blk_cell BK230.out 2).trans rfl
           have hfz18_0 := blk_frozen BK230.out 0
           have hfz18_1 := blk_frozen BK230.out 1
           have hfz18_2 := blk_frozen BK230.out 2
           go_wp2_with (first | (go_at_call 59; (with_reducible refine (spec_l1All.calls k2 _ _ (rd_L1 l0_1 x31_2) 0 1 true _ ?side1 ?side2 A16.out).mono ?_); (case side1 => repeat (first | exact (Kd.C_below HR232_0.out HB.out) | (with_reducible refine Kd.C_alloc ?_ _) | (with_reducible refine Kd.C_drewN ?_ _) | (with_reducible refine Kd.C_drew ?_))); (case side2 => exact HC232_0.out); rintro e w' ⟨rfl, ⟨nd, rfl⟩⟩))
           go_roundg k2
           case measure => have := HJ1.out; have := HK2.out; omega
           case rel => exact ⟨(wrap64 (x31_2 + 1)), (by first | rfl | (simp; done) | (simp [*]; done)), H', ⟨by have := HJ1.out; have := HK2.out; omega⟩, ⟨by (with_reducible repeat (first | refine blk_drewN ?_ _ | refine blk_drew ?_ | refine blk_alloc ?_ _)); exact BK230.out⟩, ⟨by repeat (first | (with_reducible first | exact HB.out | apply below_alloc | apply pw_below_drewN | apply below_drew1 | refine below_set ?_ GE230.out) | exact HB.out)⟩⟩
          ·replace c17 := Bool.eq_false_iff.mpr c17
           subst c17
           have H1 : (some false) = some r := by rw [if_neg (show ¬ (false = true) by decide)] at H; exact H
           clear H
           have H := H1
           clear H1
           obtain rfl := Option.some.inj H
           have p232 : 0 ≤ (x31_2 : Int) := of_decide_eq_true (by first | (with_reducible assumption) | assumption)
           have q232 : x31_2 < (l0_1.length : Int) := of_decide_eq_true (by first | (with_reducible assumption) | assumption)
           obtain ⟨ad232, A232_0, c232_0, e232, hx232_0, hl232_0, hi232_0⟩ := at_L1 HR0_1.out x31_2 p232 q232
           cases e232
           (try replace hx232_0 := (HB.out.cell (World.block_lt_of_cell? w _ hx232_0)).trans hx232_0)
           have HR232_0 := Aside0.mk hi232_0
           have HC232_0 := Aside0.mk hl232_0
           clear hi232_0 hl232_0
           replace p232 := eq_true p232
           replace q232 := eq_true q232
           have hcz19_0 : wr.cell? ⟨gb230, 0, none⟩ = some (.int .i64 a0_0) := (blk_cell BK230.out 0).trans rfl
           have hcz19_1 : wr.cell? ⟨gb230, 1, none⟩ = some (.slice (some ad232) l0_1.length c0_1) := (blk_cell BK230.out 1).trans rfl
           have hcz19_2 : wr.cell? ⟨gb230, 2, none⟩ = some (.slice A0_2 l0_2.length c0_2) := (blk_cell BK230.out 2).trans rfl
           have hfz19_0 := blk_frozen BK230.out 0
           have hfz19_1 := blk_frozen BK230.out 1
           have hfz19_2 := blk_frozen BK230.out 2
           go_wp2_with (first | (go_at_call 59; (with_reducible refine (spec_l1All.calls k2 _ _ (rd_L1 l0_1 x31_2) 0 1 false _ ?side1 ?side2 A16.out).mono ?_); (case side1 => repeat (first | exact (Kd.C_below HR232_0.out HB.out) | (with_reducible refine Kd.C_alloc ?_ _) | (with_reducible refine Kd.C_drewN ?_ _) | (with_reducible refine Kd.C_drew ?_))); (case side2 => exact HC232_0.out); rintro e w' ⟨rfl, ⟨nd, rfl⟩⟩))
           go_ret
           exact ⟨by first | rfl | (simp [errW_none, errW_some] <;> rfl) | (simp [*, errW_none, errW_some] <;> rfl), by repeat (first | (with_reducible first | exact HB.out | apply below_alloc | apply pw_below_drewN | apply below_drew1 | refine below_set ?_ GE230.out) | exact HB.out)⟩
         ·rw [if_neg c15] at H
          have c15b0 : (((rd_L1 l0_1 x31_2).length : Int) == (wrap64 (a0_0 + 1))) = false := beq_eq_false_iff_ne.mpr c15
          have c15b1 : (((rd_L1 l0_1 x31_2).length : Int) != (wrap64 (a0_0 + 1))) = true := bne_iff_ne.mpr c15
          obtain rfl := Option.some.inj H
          have p232 : 0 ≤ (x31_2 : Int) := of_decide_eq_true (by first | (with_reducible assumption) | assumption)
          have q232 : x31_2 < (l0_1.length : Int) := of_decide_eq_true (by first | (with_reducible assumption) | assumption)
          obtain ⟨ad232, A232_0, c232_0, e232, hx232_0, hl232_0, hi232_0⟩ := at_L1 HR0_1.out x31_2 p232 q232
          cases e232
          (try replace hx232_0 := (HB.out.cell (World.block_lt_of_cell? w _ hx232_0)).trans hx232_0)
          have HR232_0 := Aside0.mk hi232_0
          have HC232_0 := Aside0.mk hl232_0
          clear hi232_0 hl232_0
          replace p232 := eq_true p232
          replace q232 := eq_true q232
          have hcz20_0 : wr.cell? ⟨gb230, 0, none⟩ = some (.int .i64 a0_0) := (blk_cell BK230.out 0).trans rfl
          have hcz20_1 : wr.cell? ⟨gb230, 1, none⟩ = some (.slice (some ad232) l0_1.length c0_1) := (blk_cell BK230.out 1).trans rfl
          have hcz20_2 : wr.cell? ⟨gb230, 2, none⟩ = some (.slice A0_2 l0_2.length c0_2) := (blk_cell BK230.out 2).trans rfl
          have hfz20_0 := blk_frozen BK230.out 0
          have hfz20_1 := blk_frozen BK230.out 1
          have hfz20_2 := blk_frozen BK230.out 2
          go_wp2
          go_ret
          exact ⟨by first | rfl | (simp [errW_none, errW_some] <;> rfl) | (simp [*, errW_none, errW_some] <;> rfl), by repeat (first | (with_reducible first | exact HB.out | apply below_alloc | apply pw_below_drewN | apply below_drew1 | refine below_set ?_ GE230.out) | exact HB.out)⟩
        ·rw [if_neg c14] at H
         exact absurd H (by simp)
       ·rw [if_neg c13] at H
        exact absurd H (by simp)
      ·rw [if_neg c12] at H
       have c12b0 : decide (x31_2 < (l0_1.length : Int)) = false := decide_eq_false c12
       clear c12
       have H' := Aside0.mk H
       clear H
       have hcz21_0 : wr.cell? ⟨gb230, 0, none⟩ = some (.int .i64 a0_0) := (blk_cell BK230.out 0).trans rfl
       have hcz21_1 : wr.cell? ⟨gb230, 1, none⟩ = some (.slice A0_1 l0_1.length c0_1) := (blk_cell BK230.out 1).trans rfl
       have hcz21_2 : wr.cell? ⟨gb230, 2, none⟩ = some (.slice A0_2 l0_2.length c0_2) := (blk_cell BK230.out 2).trans rfl
       have hfz21_0 := blk_frozen BK230.out 0
       have hfz21_1 := blk_frozen BK230.out 1
       have hfz21_2 := blk_frozen BK230.out 2
       go_wp2
       go_loopg [50] k2 (fun kq v50 w' => ∃ (x50_3 : Int), v50 = .int .i64 x50_3 ∧ Aside0 (spec_loShape.l1 kq l0_2 (l0_2.length : Int) x50_3 a0_0 l0_1 l0_2 = some r) ∧ Aside0 (kq ≤ k2) ∧ Aside0 (w'.heap[gb230]? = some (.cells #[.int .i64 a0_0, (.slice A0_1 l0_1.length c0_1), (.slice A0_2 l0_2.length c0_2)] 25 (0, 0))) ∧ Aside0 (Below w.heap.size w w'))
       case atStart => exact ⟨(0), (by first | rfl | (simp; done) | (simp [*]; done)), H', ⟨Nat.le_refl _⟩, ⟨by (with_reducible repeat (first | refine blk_drewN ?_ _ | refine blk_drew ?_ | refine blk_alloc ?_ _)); exact BK230.out⟩, ⟨by repeat (first | (with_reducible first | exact HB.out | apply below_alloc | apply pw_below_drewN | apply below_drew1 | refine below_set ?_ GE230.out) | exact HB.out)⟩⟩
       case round =>
        clear H'
        try clear c1
        try clear c2
        try clear p2
        try clear q2
        try clear hx2
        try clear c4
        try clear c5
        try clear c6
        try clear c6b0
        try clear c6b1
        try clear p6
        try clear c10
        try clear c12
        try clear c12b0
        try clear c13
        try clear c13b0
        try clear c14
        try clear c14b0
        try clear c15
        try clear c15b0
        try clear c15b1
        try clear c17
        try clear hcz11_0
        try clear hcz11_1
        try clear hcz11_2
        try clear hcz18_0
        try clear hcz18_1
        try clear hcz18_2
        try clear hcz19_0
        try clear hcz19_1
        try clear hcz19_2
        try clear hcz20_0
        try clear hcz20_1
        try clear hcz20_2
        try clear hcz21_0
        try clear hcz21_1
        try clear hcz21_2
        try clear hcz7_0
        try clear hcz7_1
        try clear hcz7_2
        try clear hcz8_0
        try clear hcz8_1
        try clear hcz8_2
        try clear hcz9_0
        try clear hcz9_1
        try clear hcz9_2
        try clear hfz11_0
        try clear hfz11_1
        try clear hfz11_2
        try clear hfz18_0
        try clear hfz18_1
        try clear hfz18_2
        try clear hfz19_0
        try clear hfz19_1
        try clear hfz19_2
        try clear hfz20_0
        try clear hfz20_1
        try clear hfz20_2
        try clear hfz21_0
        try clear hfz21_1
        try clear hfz21_2
        try clear hfz7_0
        try clear hfz7_1
        try clear hfz7_2
        try clear hfz8_0
        try clear hfz8_1
        try clear hfz8_2
        try clear hfz9_0
        try clear hfz9_1
        try clear hfz9_2
        try clear hx232_0
        try clear p2
        try clear p232
        try clear p6
        try clear q232
        obtain ⟨x50_3, rfl, HA, HK3, BK230, HB⟩ := hrel
        cases gk with
        | zero => exact absurd HA.out (by simp [spec_loShape.l1])
        | succ k3 =>
         have H := HA.out
         clear HA
         simp only [spec_loShape.l1] at H
         by_cases c22 : x50_3 < (l0_2.length : Int)
         ·rw [if_pos c22] at H
          have c22b0 : decide (x50_3 < (l0_2.length : Int)) = true := decide_eq_true c22
          clear c22
          by_cases c23 : 0 ≤ x50_3
          ·rw [if_pos c23] at H
           have c23b0 : decide (0 ≤ x50_3) = true := decide_eq_true c23
           clear c23
           by_cases c24 : x50_3 < (l0_2.length : Int)
           ·rw [if_pos c24] at H
            have c24b0 : decide (x50_3 < (l0_2.length : Int)) = true := decide_eq_true c24
            clear c24
            by_cases c25 : ((rd_L1 l0_2 x50_3).length : Int) = a0_0
            ·rw [if_pos c25] at H
             have c25b0 : (((rd_L1 l0_2 x50_3).length : Int) == a0_0) = true := beq_iff_eq.mpr c25
             have c25b1 : (((rd_L1 l0_2 x50_3).length : Int) != a0_0) = false := bne_eq_false_iff_eq.mpr c25
             clear c25
             replace H := Option.bind_eq_some_iff.mp H
             obtain ⟨t235, A260, H⟩ := H
             replace H : (if t235 = true then (spec_loShape.l1 k3 l0_2 (l0_2.length : Int) (wrap64 (x50_3 + 1)) a0_0 l0_1 l0_2) else (some false)) = some r := H
             have A26 := Aside0.mk A260
             clear A260
             by_cases c27 : t235 = true
             ·subst c27
              have H1 : (spec_loShape.l1 k3 l0_2 (l0_2.length : Int) (wrap64 (x50_3 + 1)) a0_0 l0_1 l0_2) = some r := by rw [if_pos rfl] at H; exact H
              clear H
              have H := H1
              clear H1
              have H' := Aside0.mk H
              clear H
              have p234 : 0 ≤ (x50_3 : Int) := of_decide_eq_true (by first | (with_reducible assumption) | assumption)
              have q234 : x50_3 < (l0_2.length : Int) := of_decide_eq_true (by first | (with_reducible assumption) | assumption)
              obtain ⟨ad234, A234_0, c234_0, e234, hx234_0, hl234_0, hi234_0⟩ := at_L1 HR0_2.out x50_3 p234 q234
              cases e234
              (try replace hx234_0 := (HB.out.cell (World.block_lt_of_cell? w _ hx234_0)).trans hx234_0)
              have HR234_0 := Aside0.mk hi234_0
              have HC234_0 := Aside0.mk hl234_0
              clear hi234_0 hl234_0
              replace p234 := eq_true p234
              replace q234 := eq_true q234
              have hcz28_0 : wr.cell? ⟨gb230, 0, none⟩ = some (.int .i64 a0_0) := (blk_cell BK230.out 0).trans rfl
              have hcz28_1 : wr.cell? ⟨gb230, 1, none⟩ = some (.slice A0_1 l0_1.length c0_1) := (blk_cell BK230.out 1).trans rfl
              have hcz28_2 : wr.cell? ⟨gb230, 2, none⟩ = some (.slice (some ad234) l0_2.length c0_2) := (blk_cell BK230.out 2).trans rfl
              have hfz28_0 := blk_frozen BK230.out 0
              have hfz28_1 := blk_frozen BK230.out 1
              have hfz28_2 := blk_frozen BK230.out 2
              go_wp2_with (first | (go_at_call 59; (with_reducible refine (spec_l1All.calls k3 _ _ (rd_L1 l0_2 x50_3) 0 1 true _ ?side1 ?side2 A26.out).mono ?_); (case side1 => repeat (first | exact (Kd.C_below HR234_0.out HB.out) | (with_reducible refine Kd.C_alloc ?_ _) | (with_reducible refine Kd.C_drewN ?_ _) | (with_reducible refine Kd.C_drew ?_))); (case side2 => exact HC234_0.out); rintro e w' ⟨rfl, ⟨nd, rfl⟩⟩))
              go_roundg k3
              case measure => have := HJ1.out; have := HK2.out; have := HK3.out; omega
              case rel => exact ⟨(wrap64 (x50_3 + 1)), (by first | rfl | (simp; done) | (simp [*]; done)), H', ⟨by have := HJ1.out; have := HK2.out; have := HK3.out; omega⟩, ⟨by (with_reducible repeat (first | refine blk_drewN ?_ _ | refine blk_drew ?_ | refine blk_alloc ?_ _)); exact BK230.out⟩, ⟨by repeat (first | (with_reducible first | exact HB.out | apply below_alloc | apply pw_below_drewN | apply below_drew1 | refine below_set ?_ GE230.out) | exact HB.out)⟩⟩
             ·replace c27 := Bool.eq_false_iff.mpr c27
              subst c27
              have H1 : (some false) = some r := by rw [if_neg (show ¬ (false = true) by decide)] at H; exact H
              clear H
              have H := H1
              clear H1
              obtain rfl := Option.some.inj H
              have p234 : 0 ≤ (x50_3 : Int) := of_decide_eq_true (by first | (with_reducible assumption) | assumption)
              have q234 : x50_3 < (l0_2.length : Int) := of_decide_eq_true (by first | (with_reducible assumption) | assumption)
              obtain ⟨ad234, A234_0, c234_0, e234, hx234_0, hl234_0, hi234_0⟩ := at_L1 HR0_2.out x50_3 p234 q234
              cases e234
              (try replace hx234_0 := (HB.out.cell (World.block_lt_of_cell? w _ hx234_0)).trans hx234_0)
              have HR234_0 := Aside0.mk hi234_0
              have HC234_0 := Aside0.mk hl234_0
              clear hi234_0 hl234_0
              replace p234 := eq_true p234
              replace q234 := eq_true q234
              have hcz29_0 : wr.cell? ⟨gb230, 0, none⟩ = some (.int .i64 a0_0) := (blk_cell BK230.out 0).trans rfl
              have hcz29_1 : wr.cell? ⟨gb230, 1, none⟩ = some (.slice A0_1 l0_1.length c0_1) := (blk_cell BK230.out 1).trans rfl
              have hcz29_2 : wr.cell? ⟨gb230, 2, none⟩ = some (.slice (some ad234) l0_2.length c0_2) := (blk_cell BK230.out 2).trans rfl
              have hfz29_0 := blk_frozen BK230.out 0
              have hfz29_1 := blk_frozen BK230.out 1
              have hfz29_2 := blk_frozen BK230.out 2
              go_wp2_with (first | (go_at_call 59; (with_reducible refine (spec_l1All.calls k3 _ _ (rd_L1 l0_2 x50_3) 0 1 false _ ?side1 ?side2 A26.out).mono ?_); (case side1 => repeat (first | exact (Kd.C_below HR234_0.out HB.out) | (with_reducible refine Kd.C_alloc ?_ _) | (with_reducible refine Kd.C_drewN ?_ _) | (with_reducible refine Kd.C_drew ?_))); (case side2 => exact HC234_0.out); rintro e w' ⟨rfl, ⟨nd, rfl⟩⟩))
              go_ret
              exact ⟨by first | rfl | (simp [errW_none, errW_some] <;> rfl) | (simp [*, errW_none, errW_some] <;> rfl), by repeat (first | (with_reducible first | exact HB.out | apply below_alloc | apply pw_below_drewN | apply below_drew1 | refine below_set ?_ GE230.out) | exact HB.out)⟩
            ·rw [if_neg c25] at H
             have c25b0 : (((rd_L1 l0_2 x50_3).length : Int) == a0_0) = false := beq_eq_false_iff_ne.mpr c25
             have c25b1 : (((rd_L1 l0_2 x50_3).length : Int) != a0_0) = true := bne_iff_ne.mpr c25
             obtain rfl := Option.some.inj H
             have p234 : 0 ≤ (x50_3 : Int) := of_decide_eq_true (by first | (with_reducible assumption) | assumption)
             have q234 : x50_3 < (l0_2.length : Int) := of_decide_eq_true (by first | (with_reducible assumption) | assumption)
             obtain ⟨ad234, A234_0, c234_0, e234, hx234_0, hl234_0, hi234_0⟩ := at_L1 HR0_2.out x50_3 p234 q234
             cases e234
             (try replace hx234_0 := (HB.out.cell (World.block_lt_of_cell? w _ hx234_0)).trans hx234_0)
             have HR234_0 := Aside0.mk hi234_0
             have HC234_0 := Aside0.mk hl234_0
             clear hi234_0 hl234_0
             replace p234 := eq_true p234
             replace q234 := eq_true q234
             have hcz30_0 : wr.cell? ⟨gb230, 0, none⟩ = some (.int .i64 a0_0) := (blk_cell BK230.out 0).trans rfl
             have hcz30_1 : wr.cell? ⟨gb230, 1, none⟩ = some (.slice A0_1 l0_1.length c0_1) := (blk_cell BK230.out 1).trans rfl
             have hcz30_2 : wr.cell? ⟨gb230, 2, none⟩ = some (.slice (some ad234) l0_2.length c0_2) := (blk_cell BK230.out 2).trans rfl
             have hfz30_0 := blk_frozen BK230.out 0
             have hfz30_1 := blk_frozen BK230.out 1
             have hfz30_2 := blk_frozen BK230.out 2
             go_wp2
             go_ret
             exact ⟨by first | rfl | (simp [errW_none, errW_some] <;> rfl) | (simp [*, errW_none, errW_some] <;> rfl), by repeat (first | (with_reducible first | exact HB.out | apply below_alloc | apply pw_below_drewN | apply below_drew1 | refine below_set ?_ GE230.out) | exact HB.out)⟩
           ·rw [if_neg c24] at H
            exact absurd H (by simp)
          ·rw [if_neg c23] at H
           exact absurd H (by simp)
         ·rw [if_neg c22] at H
          have c22b0 : decide (x50_3 < (l0_2.length : Int)) = false := decide_eq_false c22
          clear c22
          obtain rfl := Option.some.inj H
          go_wp2
          go_ret
          exact ⟨by first | rfl | (simp [errW_none, errW_some] <;> rfl) | (simp [*, errW_none, errW_some] <;> rfl), by repeat (first | (with_reducible first | exact HB.out | apply below_alloc | apply pw_below_drewN | apply below_drew1 | refine below_set ?_ GE230.out) | exact HB.out)⟩

end Go.Proofs.Ytbihfdadnkmckaa.P

namespace Go.Proofs.Ytbihfdadnkmckaa.L
open Go.RowKit Go.Proofs.Ytbihfdadnkmckaa Go.Proofs.Ytbihfdadnkmckaa.P Go.Proofs.YtbihfdadnkmckaaW.PrintWords Go.Proofs.YtbihfdadnkmckaaW.PrintLast Go.Proofs.YtbihfdadnkmckaaW.PrintMore
set_option linter.unusedVariables false

theorem shape_l1 (z : Int) (a d : List (List Int)) (n : Int) (hd : fewRows d) : ∀ (q i : Nat), i + q = d.length → Ev (fun k => spec_loShape.l1 k d d.length i n a d) ((d.drop i).all (rowOk n)) := by
 have hl := hd.1
 intro q
 induction q with
 | zero =>
  intro i hi
  refine Ev.step (fun k => by rw [spec_loShape.l1]) ?_
  rw [List.drop_eq_nil_of_le (by omega)]
  exact Ev.ite_neg (by omega) (Ev.now _)
 | succ q ih =>
  intro i hi
  have hlt : i < d.length := by omega
  have hr := hd.2 _ (List.getElem_mem hlt)
  refine Ev.step (fun k => by rw [spec_loShape.l1]) ?_
  rw [rd1_at d i hlt, List.drop_eq_getElem_cons hlt, List.all_cons]
  refine Ev.ite_pos (by omega) (Ev.ite_pos (by omega) (Ev.ite_pos (by omega) ?_))
  by_cases h : ((d[i]).length : Int) = n
  ·refine Ev.ite_pos h (Ev.bind (l1All_ev d[i] 0 1 (by omega)) ?_)
   have e : rowOk n d[i] = (d[i]).all fun x => inB x 0 1 := by unfold rowOk; rw [beq_iff_eq.2 h, Bool.true_and]
   rw [e, wrapS i (by omega)]
   cases hq : (d[i]).all fun x => inB x 0 1 with
   | true => rw [Bool.true_and]; exact Ev.ite_pos rfl (ih (i + 1) (by omega))
   | false => exact Ev.ite_neg (by simp) (Ev.now _)
  ·have e : rowOk n d[i] = false := by unfold rowOk; rw [beq_eq_false_iff_ne.2 h, Bool.false_and]
   rw [e]
   exact Ev.ite_neg h (Ev.now _)
theorem shape_l0 (a d : List (List Int)) (n : Int) (hn : n ≤ 1000 ∧ -1000 ≤ n) (ha : fewRows a) (hd : fewRows d) : ∀ (q i : Nat), i + q = a.length → Ev (fun k => spec_loShape.l0 k a a.length i n a d) ((a.drop i).all (rowOk (n + 1)) && d.all (rowOk n)) := by
 have hl := ha.1
 have hw : wrap64 (n + 1) = n + 1 := wrapI _ (by omega) (by omega)
 intro q
 induction q with
 | zero =>
  intro i hi
  refine Ev.step (fun k => by rw [spec_loShape.l0]) ?_
  rw [List.drop_eq_nil_of_le (by omega), List.all_nil, Bool.true_and]
  have := shape_l1 0 a d n hd d.length 0 (by omega)
  rw [List.drop_zero] at this
  exact Ev.ite_neg (by omega) this
 | succ q ih =>
  intro i hi
  have hlt : i < a.length := by omega
  have hr := ha.2 _ (List.getElem_mem hlt)
  refine Ev.step (fun k => by rw [spec_loShape.l0]) ?_
  rw [rd1_at a i hlt, List.drop_eq_getElem_cons hlt, List.all_cons, hw]
  refine Ev.ite_pos (by omega) (Ev.ite_pos (by omega) (Ev.ite_pos (by omega) ?_))
  by_cases h : ((a[i]).length : Int) = n + 1
  ·refine Ev.ite_pos h (Ev.bind (l1All_ev a[i] 0 1 (by omega)) ?_)
   have e : rowOk (n + 1) a[i] = (a[i]).all fun x => inB x 0 1 := by unfold rowOk; rw [beq_iff_eq.2 h, Bool.true_and]
   rw [e, wrapS i (by omega)]
   cases hq : (a[i]).all fun x => inB x 0 1 with
   | true => rw [Bool.true_and]; exact Ev.ite_pos rfl (ih (i + 1) (by omega))
   | false => exact Ev.ite_neg (by simp) (Ev.now _)
  ·have e : rowOk (n + 1) a[i] = false := by unfold rowOk; rw [beq_eq_false_iff_ne.2 h, Bool.false_and]
   rw [e]
   exact Ev.ite_neg h (Ev.now _)
/-- The shape. -/
def shapeB (n : Int) (a d : List (List Int)) : Bool := inB n 1 6 && (tabB a n (n + 1) && tabB d (n + 1) n)
theorem shape_ev (n : Int) (a d : List (List Int)) (ha : fewRows a) (hd : fewRows d) : Ev (fun k => spec_loShape.f k n a d) (shapeB n a d) := by
 unfold spec_loShape.f shapeB
 rw [l1In_eq]
 simp only [Option.bind_some]
 cases hi : inB n 1 6 with
 | false =>
  rw [Bool.false_and]
  refine Ev.ite_neg (by simp) ?_
  refine Ev.step (fun k => by rw [spec_loShape.j0]) ?_
  exact Ev.ite_pos rfl (Ev.now _)
 | true =>
  obtain ⟨h0, h1⟩ := (inB_iff n 1 6).1 hi
  have hw : wrap64 (n + 1) = n + 1 := wrapI _ (by omega) (by omega)
  rw [Bool.true_and, hw]
  refine Ev.ite_pos rfl ?_
  by_cases h : (a.length : Int) = n
  ·refine Ev.ite_pos h ?_
   refine Ev.step (fun k => by rw [spec_loShape.j0]) ?_
   by_cases h2 : (d.length : Int) = n + 1
   ·rw [show ((d.length : Int) != n + 1) = false from by rw [bne_eq_false_iff_eq]; exact h2]
    refine Ev.ite_neg (by simp) ?_
    have e : (tabB a n (n + 1) && tabB d (n + 1) n) = (a.all (rowOk (n + 1)) && d.all (rowOk n)) := by unfold tabB; rw [beq_iff_eq.2 h, beq_iff_eq.2 h2, Bool.true_and, Bool.true_and]
    rw [e]
    have := shape_l0 a d n ⟨by omega, by omega⟩ ha hd a.length 0 (by omega)
    rwa [List.drop_zero] at this
   ·rw [show ((d.length : Int) != n + 1) = true from by rw [bne_iff_ne]; exact h2]
    have e : tabB d (n + 1) n = false := by unfold tabB; rw [beq_eq_false_iff_ne.2 h2, Bool.false_and]
    rw [e, Bool.and_false]
    exact Ev.ite_pos rfl (Ev.now _)
  ·refine Ev.ite_neg h ?_
   refine Ev.step (fun k => by rw [spec_loShape.j0]) ?_
   have e : tabB a n (n + 1) = false := by unfold tabB; rw [beq_eq_false_iff_ne.2 h, Bool.false_and]
   rw [e, Bool.false_and]
   exact Ev.ite_pos rfl (Ev.now _)
end Go.Proofs.Ytbihfdadnkmckaa.L
