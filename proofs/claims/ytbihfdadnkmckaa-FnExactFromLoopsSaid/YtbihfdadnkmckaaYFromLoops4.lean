/- Texts of one chain, in build order. -/
import Derived.Test.YtbihfdadnkmckaaYFromLoops3
namespace Go.Proofs.Ytbihfdadnkmckaa.P
open Go.RowKit Go.Proofs.YtbihfdadnkmckaaW.PrintWords Go.Proofs.YtbihfdadnkmckaaW.PrintLast Go.Proofs.YtbihfdadnkmckaaW.PrintMore
attribute [local go_sem] max2_int min2_int max_two min_two max_three min_three max_four min_four   -- for this text's walks alone
set_option linter.unusedVariables false
set_option linter.unusedSimpArgs false

mutual
def spec_loGood.l0 : Nat → Int → Int → Int → List (List Int) → List (List Int) → Option (Bool)
 | 0, _, _, _, _, _ => none
 | k + 1, x3, x4, x237000, x237001, x237002 => if x4 < x3 then (if 0 ≤ x4 then (if x4 < (x237001.length : Int) then (if 0 < ((rd_L1 x237001 x4).length : Int) then (if (rd (rd_L1 x237001 x4) 0) = (wrap64 (1 - (Int.tmod x4 2))) then (if 0 ≤ x3 then (if x3 < ((rd_L1 x237001 x4).length : Int) then (if (rd (rd_L1 x237001 x4) x3) = (Int.tmod (wrap64 (x3 + x4)) 2) then (if 0 < (x237002.length : Int) then (if x4 < ((rd_L1 x237002 0).length : Int) then (if (rd (rd_L1 x237002 0) x4) = (Int.tmod x4 2) then (if x3 < (x237002.length : Int) then (if x4 < ((rd_L1 x237002 x3).length : Int) then (spec_loGood.j1 k x3 x4 ((rd (rd_L1 x237002 x3) x4) != (wrap64 (1 - (Int.tmod (wrap64 (x3 + x4)) 2)))) x237000 x237001 x237002) else (none)) else (none)) else (spec_loGood.j1 k x3 x4 true x237000 x237001 x237002)) else (none)) else (none)) else (spec_loGood.j1 k x3 x4 true x237000 x237001 x237002)) else (none)) else (none)) else (spec_loGood.j1 k x3 x4 true x237000 x237001 x237002)) else (none)) else (none)) else (none)) else (some true)
def spec_loGood.j1 : Nat → Int → Int → Bool → Int → List (List Int) → List (List Int) → Option (Bool)
 | 0, _, _, _, _, _, _ => none
 | k + 1, x3, x4, x69, x237000, x237001, x237002 => if x69 = true then (some false) else (spec_loGood.l1 k x3 x4 0 x237000 x237001 x237002)
def spec_loGood.l1 : Nat → Int → Int → Int → Int → List (List Int) → List (List Int) → Option (Bool)
 | 0, _, _, _, _, _, _ => none
 | k + 1, x3, x4, x5, x237000, x237001, x237002 => if x5 < x3 then (if 0 ≤ x4 then (if x4 < (x237001.length : Int) then (if 0 ≤ x5 then (if x5 < ((rd_L1 x237001 x4).length : Int) then (if 0 ≤ (wrap64 (x5 + 1)) then (if (wrap64 (x5 + 1)) < ((rd_L1 x237001 x4).length : Int) then (if x4 < (x237002.length : Int) then (if x5 < ((rd_L1 x237002 x4).length : Int) then (if 0 ≤ (wrap64 (x4 + 1)) then (if (wrap64 (x4 + 1)) < (x237002.length : Int) then (if x5 < ((rd_L1 x237002 (wrap64 (x4 + 1))).length : Int) then (if (wrap64 ((wrap64 ((wrap64 ((rd (rd_L1 x237001 x4) x5) + (rd (rd_L1 x237001 x4) (wrap64 (x5 + 1))))) + (rd (rd_L1 x237002 x4) x5))) + (rd (rd_L1 x237002 (wrap64 (x4 + 1))) x5))) = 2 then (spec_loGood.l1 k x3 x4 (wrap64 (x5 + 1)) x237000 x237001 x237002) else (some false)) else (none)) else (none)) else (none)) else (none)) else (none)) else (none)) else (none)) else (none)) else (none)) else (none)) else (none)) else (spec_loGood.l0 k x3 (wrap64 (x4 + 1)) x237000 x237001 x237002)
end
def spec_loGood.f (k : Nat) (a0_0 : Int) (l0_1 : List (List Int)) (l0_2 : List (List Int)) : Option (Bool) := (spec_loShape.f k a0_0 l0_1 l0_2).bind fun t237 => (if t237 = true then (spec_loGood.l0 k a0_0 0 a0_0 l0_1 l0_2) else (some false))
set_option maxHeartbeats 8000000 in
set_option maxRecDepth 100000 in
theorem spec_loGood.calls (k : Nat) (a0_0 : Int) (A0_1 : Option Addr) (c0_1 : Nat) (l0_1 : List (List Int)) (A0_2 : Option Addr) (c0_2 : Nat) (l0_2 : List (List Int)) (r : Bool) (w : World) (hr0_1 : Kd.C (Kd.slice 3 (Kd.int .i64)) w A0_1 l0_1.length l0_1) (hc0_1 : l0_1.length ≤ c0_1) (hr0_2 : Kd.C (Kd.slice 3 (Kd.int .i64)) w A0_2 l0_2.length l0_2) (hc0_2 : l0_2.length ≤ c0_2) (h : spec_loGood.f k a0_0 l0_1 l0_2 = some r) :
  Calls Try.prog 30 #[.agg #[.int .i64 a0_0, .slice A0_1 l0_1.length c0_1, .slice A0_2 l0_2.length c0_2]] w fun e w' => e = .returned (.bool r) ∧ Below w.heap.size w w' := by
 have hu25 := Try.underlying25
 have HR0_1 := Aside0.mk hr0_1
 have HC0_1 := Aside0.mk hc0_1
 clear hr0_1 hc0_1
 have HR0_2 := Aside0.mk hr0_2
 have HC0_2 := Aside0.mk hc0_2
 clear hr0_2 hc0_2
 have HB := Aside0.mk (Below.refl w.heap.size w)
 have H : ((spec_loShape.f k a0_0 l0_1 l0_2).bind fun t237 => (if t237 = true then (spec_loGood.l0 k a0_0 0 a0_0 l0_1 l0_2) else (some false))) = some r := h
 clear h
 replace H := Option.bind_eq_some_iff.mp H
 obtain ⟨t237, A20, H⟩ := H
 replace H : (if t237 = true then (spec_loGood.l0 k a0_0 0 a0_0 l0_1 l0_2) else (some false)) = some r := H
 have A2 := Aside0.mk A20
 clear A20
 by_cases c3 : t237 = true
 ·subst c3
  have H1 : (spec_loGood.l0 k a0_0 0 a0_0 l0_1 l0_2) = some r := by rw [if_pos rfl] at H; exact H
  clear H
  have H := H1
  clear H1
  have H' := Aside0.mk H
  clear H
  go_enter Try.func30, Try.ntmps30
  go_wp2_with (first | ((with_reducible refine gate_dst (N := 1) rfl ?_); refine box_event ?hg (N := 1) ?hd (cs := #[.int .i64 a0_0, .slice A0_1 l0_1.length c0_1, .slice A0_2 l0_2.length c0_2]) (t := 25) ?hr ?_; (case hd => rfl); (case hg => rfl); (case hr => first | (go_simp; done) | (go_simp; rfl)); intro gb236 hg w4 hbox hb; have n0_ := Aside0.mk (below_step (by repeat (first | (with_reducible first | exact HB.out | apply below_alloc | apply pw_below_drewN | apply below_drew1) | exact HB.out)) hb); have n1_ := Aside0.mk (hbox); have n2_ := Aside0.mk ((by rw [hg]; exact (below_size (by repeat (first | (with_reducible first | exact HB.out | apply below_alloc | apply pw_below_drewN | apply below_drew1) | exact HB.out))) : w.heap.size ≤ gb236)); have n3_ := Aside0.mk ((by rw [hg]; exact (below_size (by repeat (first | (with_reducible first | exact HB.out | apply below_alloc | apply pw_below_drewN | apply below_drew1) | exact HB.out))) : w.heap.size ≤ gb236)); clear HB; have HB := n0_; have BK236 := n1_; have GW236 := n2_; have GE236 := n3_; clear n0_ n1_ n2_ n3_; clear hb hbox hg; have hcz5_0 : w4.cell? ⟨gb236, 0, none⟩ = some (.int .i64 a0_0) := (blk_cell BK236.out 0).trans rfl; have hcz5_1 : w4.cell? ⟨gb236, 1, none⟩ = some (.slice A0_1 l0_1.length c0_1) := (blk_cell BK236.out 1).trans rfl; have hcz5_2 : w4.cell? ⟨gb236, 2, none⟩ = some (.slice A0_2 l0_2.length c0_2) := (blk_cell BK236.out 2).trans rfl; have hfz5_0 := blk_frozen BK236.out 0; have hfz5_1 := blk_frozen BK236.out 1; have hfz5_2 := blk_frozen BK236.out 2) | (go_at_call 49; (with_reducible refine (spec_loShape.calls k a0_0 _ _ l0_1 _ _ l0_2 true _ ?side1 ?side2 ?side3 ?side4 A2.out).mono ?_); (case side1 => repeat (first | exact (Kd.C_below HR0_1.out HB.out) | (with_reducible refine Kd.C_alloc ?_ _) | (with_reducible refine Kd.C_drewN ?_ _) | (with_reducible refine Kd.C_drew ?_))); (case side2 => exact HC0_1.out); (case side3 => repeat (first | exact (Kd.C_below HR0_2.out HB.out) | (with_reducible refine Kd.C_alloc ?_ _) | (with_reducible refine Kd.C_drewN ?_ _) | (with_reducible refine Kd.C_drew ?_))); (case side4 => exact HC0_2.out); rintro e w6 ⟨rfl, hb⟩; have n0_ := Aside0.mk (blk_below (g := gb236) (o := .cells #[.int .i64 a0_0, .slice A0_1 l0_1.length c0_1, .slice A0_2 l0_2.length c0_2] 25 (0, 0)) (by (with_reducible repeat (first | refine blk_drewN ?_ _ | refine blk_drew ?_ | refine blk_alloc ?_ _)); exact BK236.out) hb); have n1_ := Aside0.mk (below_step (by repeat (first | (with_reducible first | exact HB.out | apply below_alloc | apply pw_below_drewN | apply below_drew1 | refine below_set ?_ GE236.out) | exact HB.out)) hb); clear BK236; clear HB; have BK236 := n0_; have HB := n1_; clear n0_ n1_; (try clear hb); (try clear hb2); (try clear hk); (try clear hi); have hcz7_0 : w6.cell? ⟨gb236, 0, none⟩ = some (.int .i64 a0_0) := (blk_cell BK236.out 0).trans rfl; have hcz7_1 : w6.cell? ⟨gb236, 1, none⟩ = some (.slice A0_1 l0_1.length c0_1) := (blk_cell BK236.out 1).trans rfl; have hcz7_2 : w6.cell? ⟨gb236, 2, none⟩ = some (.slice A0_2 l0_2.length c0_2) := (blk_cell BK236.out 2).trans rfl; have hfz7_0 := blk_frozen BK236.out 0; have hfz7_1 := blk_frozen BK236.out 1; have hfz7_2 := blk_frozen BK236.out 2))
  repeat (go_quiet (first | ((with_reducible refine gate_dst (N := 1) rfl ?_); refine box_event ?hg (N := 1) ?hd (cs := #[.int .i64 a0_0, .slice A0_1 l0_1.length c0_1, .slice A0_2 l0_2.length c0_2]) (t := 25) ?hr ?_; (case hd => rfl); (case hg => rfl); (case hr => first | (go_simp; done) | (go_simp; rfl)); intro gb236 hg w4 hbox hb; have n0_ := Aside0.mk (below_step (by repeat (first | (with_reducible first | exact HB.out | apply below_alloc | apply pw_below_drewN | apply below_drew1) | exact HB.out)) hb); have n1_ := Aside0.mk (hbox); have n2_ := Aside0.mk ((by rw [hg]; exact (below_size (by repeat (first | (with_reducible first | exact HB.out | apply below_alloc | apply pw_below_drewN | apply below_drew1) | exact HB.out))) : w.heap.size ≤ gb236)); have n3_ := Aside0.mk ((by rw [hg]; exact (below_size (by repeat (first | (with_reducible first | exact HB.out | apply below_alloc | apply pw_below_drewN | apply below_drew1) | exact HB.out))) : w.heap.size ≤ gb236)); clear HB; have HB := n0_; have BK236 := n1_; have GW236 := n2_; have GE236 := n3_; clear n0_ n1_ n2_ n3_; clear hb hbox hg; have hcz5_0 : w4.cell? ⟨gb236, 0, none⟩ = some (.int .i64 a0_0) := (blk_cell BK236.out 0).trans rfl; have hcz5_1 : w4.cell? ⟨gb236, 1, none⟩ = some (.slice A0_1 l0_1.length c0_1) := (blk_cell BK236.out 1).trans rfl; have hcz5_2 : w4.cell? ⟨gb236, 2, none⟩ = some (.slice A0_2 l0_2.length c0_2) := (blk_cell BK236.out 2).trans rfl; have hfz5_0 := blk_frozen BK236.out 0; have hfz5_1 := blk_frozen BK236.out 1; have hfz5_2 := blk_frozen BK236.out 2) | (go_at_call 49; (with_reducible refine (spec_loShape.calls k a0_0 _ _ l0_1 _ _ l0_2 true _ ?side1 ?side2 ?side3 ?side4 A2.out).mono ?_); (case side1 => repeat (first | exact (Kd.C_below HR0_1.out HB.out) | (with_reducible refine Kd.C_alloc ?_ _) | (with_reducible refine Kd.C_drewN ?_ _) | (with_reducible refine Kd.C_drew ?_))); (case side2 => exact HC0_1.out); (case side3 => repeat (first | exact (Kd.C_below HR0_2.out HB.out) | (with_reducible refine Kd.C_alloc ?_ _) | (with_reducible refine Kd.C_drewN ?_ _) | (with_reducible refine Kd.C_drew ?_))); (case side4 => exact HC0_2.out); rintro e w6 ⟨rfl, hb⟩; have n0_ := Aside0.mk (blk_below (g := gb236) (o := .cells #[.int .i64 a0_0, .slice A0_1 l0_1.length c0_1, .slice A0_2 l0_2.length c0_2] 25 (0, 0)) (by (with_reducible repeat (first | refine blk_drewN ?_ _ | refine blk_drew ?_ | refine blk_alloc ?_ _)); exact BK236.out) hb); have n1_ := Aside0.mk (below_step (by repeat (first | (with_reducible first | exact HB.out | apply below_alloc | apply pw_below_drewN | apply below_drew1 | refine below_set ?_ GE236.out) | exact HB.out)) hb); clear BK236; clear HB; have BK236 := n0_; have HB := n1_; clear n0_ n1_; (try clear hb); (try clear hb2); (try clear hk); (try clear hi); have hcz7_0 : w6.cell? ⟨gb236, 0, none⟩ = some (.int .i64 a0_0) := (blk_cell BK236.out 0).trans rfl; have hcz7_1 : w6.cell? ⟨gb236, 1, none⟩ = some (.slice A0_1 l0_1.length c0_1) := (blk_cell BK236.out 1).trans rfl; have hcz7_2 : w6.cell? ⟨gb236, 2, none⟩ = some (.slice A0_2 l0_2.length c0_2) := (blk_cell BK236.out 2).trans rfl; have hfz7_0 := blk_frozen BK236.out 0; have hfz7_1 := blk_frozen BK236.out 1; have hfz7_2 := blk_frozen BK236.out 2)); try go_wp2_with (first | ((with_reducible refine gate_dst (N := 1) rfl ?_); refine box_event ?hg (N := 1) ?hd (cs := #[.int .i64 a0_0, .slice A0_1 l0_1.length c0_1, .slice A0_2 l0_2.length c0_2]) (t := 25) ?hr ?_; (case hd => rfl); (case hg => rfl); (case hr => first | (go_simp; done) | (go_simp; rfl)); intro gb236 hg w4 hbox hb; have n0_ := Aside0.mk (below_step (by repeat (first | (with_reducible first | exact HB.out | apply below_alloc | apply pw_below_drewN | apply below_drew1) | exact HB.out)) hb); have n1_ := Aside0.mk (hbox); have n2_ := Aside0.mk ((by rw [hg]; exact (below_size (by repeat (first | (with_reducible first | exact HB.out | apply below_alloc | apply pw_below_drewN | apply below_drew1) | exact HB.out))) : w.heap.size ≤ gb236)); have n3_ := Aside0.mk ((by rw [hg]; exact (below_size (by repeat (first | (with_reducible first | exact HB.out | apply below_alloc | apply pw_below_drewN | apply below_drew1) | exact HB.out))) : w.heap.size ≤ gb236)); clear HB; have HB := n0_; have BK236 := n1_; have GW236 := n2_; have GE236 := n3_; clear n0_ n1_ n2_ n3_; clear hb hbox hg; have hcz5_0 : w4.cell? ⟨gb236, 0, none⟩ = some (.int .i64 a0_0) := (blk_cell BK236.out 0).trans rfl; have hcz5_1 : w4.cell? ⟨gb236, 1, none⟩ = some (.slice A0_1 l0_1.length c0_1) := (blk_cell BK236.out 1).trans rfl; have hcz5_2 : w4.cell? ⟨gb236, 2, none⟩ = some (.slice A0_2 l0_2.length c0_2) := (blk_cell BK236.out 2).trans rfl; have hfz5_0 := blk_frozen BK236.out 0; have hfz5_1 := blk_frozen BK236.out 1; have hfz5_2 := blk_frozen BK236.out 2) | (go_at_call 49; (with_reducible refine (spec_loShape.calls k a0_0 _ _ l0_1 _ _ l0_2 true _ ?side1 ?side2 ?side3 ?side4 A2.out).mono ?_); (case side1 => repeat (first | exact (Kd.C_below HR0_1.out HB.out) | (with_reducible refine Kd.C_alloc ?_ _) | (with_reducible refine Kd.C_drewN ?_ _) | (with_reducible refine Kd.C_drew ?_))); (case side2 => exact HC0_1.out); (case side3 => repeat (first | exact (Kd.C_below HR0_2.out HB.out) | (with_reducible refine Kd.C_alloc ?_ _) | (with_reducible refine Kd.C_drewN ?_ _) | (with_reducible refine Kd.C_drew ?_))); (case side4 => exact HC0_2.out); rintro e w6 ⟨rfl, hb⟩; have n0_ := Aside0.mk (blk_below (g := gb236) (o := .cells #[.int .i64 a0_0, .slice A0_1 l0_1.length c0_1, .slice A0_2 l0_2.length c0_2] 25 (0, 0)) (by (with_reducible repeat (first | refine blk_drewN ?_ _ | refine blk_drew ?_ | refine blk_alloc ?_ _)); exact BK236.out) hb); have n1_ := Aside0.mk (below_step (by repeat (first | (with_reducible first | exact HB.out | apply below_alloc | apply pw_below_drewN | apply below_drew1 | refine below_set ?_ GE236.out) | exact HB.out)) hb); clear BK236; clear HB; have BK236 := n0_; have HB := n1_; clear n0_ n1_; (try clear hb); (try clear hb2); (try clear hk); (try clear hi); have hcz7_0 : w6.cell? ⟨gb236, 0, none⟩ = some (.int .i64 a0_0) := (blk_cell BK236.out 0).trans rfl; have hcz7_1 : w6.cell? ⟨gb236, 1, none⟩ = some (.slice A0_1 l0_1.length c0_1) := (blk_cell BK236.out 1).trans rfl; have hcz7_2 : w6.cell? ⟨gb236, 2, none⟩ = some (.slice A0_2 l0_2.length c0_2) := (blk_cell BK236.out 2).trans rfl; have hfz7_0 := blk_frozen BK236.out 0; have hfz7_1 := blk_frozen BK236.out 1; have hfz7_2 := blk_frozen BK236.out 2)))
  go_loopg [4] k (fun kq v4 w' => ∃ (x4_1 : Int), v4 = .int .i64 x4_1 ∧ Aside0 (spec_loGood.l0 kq a0_0 x4_1 a0_0 l0_1 l0_2 = some r) ∧ Aside0 (kq ≤ k) ∧ Aside0 (w'.heap[gb236]? = some (.cells #[.int .i64 a0_0, (.slice A0_1 l0_1.length c0_1), (.slice A0_2 l0_2.length c0_2)] 25 (0, 0))) ∧ Aside0 (Below w.heap.size w w'))
  case atStart => exact ⟨(0), (by first | rfl | (simp; done) | (simp [*]; done)), H', ⟨Nat.le_refl _⟩, ⟨by (with_reducible repeat (first | refine blk_drewN ?_ _ | refine blk_drew ?_ | refine blk_alloc ?_ _)); exact BK236.out⟩, ⟨by repeat (first | (with_reducible first | exact HB.out | apply below_alloc | apply pw_below_drewN | apply below_drew1 | refine below_set ?_ GE236.out) | exact HB.out)⟩⟩
  case round =>
   clear H'
   try clear p2
   try clear c3
   try clear hcz5_0
   try clear hcz5_1
   try clear hcz5_2
   try clear hcz7_0
   try clear hcz7_1
   try clear hcz7_2
   try clear hfz5_0
   try clear hfz5_1
   try clear hfz5_2
   try clear hfz7_0
   try clear hfz7_1
   try clear hfz7_2
   obtain ⟨x4_1, rfl, HA, HK1, BK236, HB⟩ := hrel
   cases gk with
   | zero => exact absurd HA.out (by simp [spec_loGood.l0])
   | succ k1 =>
    have H := HA.out
    clear HA
    simp only [spec_loGood.l0] at H
    by_cases c8 : x4_1 < a0_0
    ·rw [if_pos c8] at H
     have c8b0 : decide (x4_1 < a0_0) = true := decide_eq_true c8
     clear c8
     have HC9 := Aside0.mk H
     clear H
     go_upto_region 7 with (fail)
     repeat (go_quiet (fail); go_upto_region 7 with (fail))
     go_cut [69] (fun v69 wc => ∃ (kq : Nat) (x69_8 : Bool), v69 = .bool x69_8 ∧ Aside0 (spec_loGood.j1 kq a0_0 x4_1 x69_8 a0_0 l0_1 l0_2 = some r) ∧ Aside0 (kq ≤ k1) ∧ Aside0 (wc.heap[gb236]? = some (.cells #[.int .i64 a0_0, (.slice A0_1 l0_1.length c0_1), (.slice A0_2 l0_2.length c0_2)] 25 (0, 0))) ∧ Aside0 (Below w.heap.size w wc))
     case first =>
      have H := HC9.out
      clear HC9
      by_cases c10 : 0 ≤ x4_1
      ·rw [if_pos c10] at H
       have c10b0 : decide (0 ≤ x4_1) = true := decide_eq_true c10
       clear c10
       (first | rw [c10b0] | (simp only [i64_w, i32_w]; rw [c10b0]) | skip)
       by_cases c11 : x4_1 < (l0_1.length : Int)
       ·rw [if_pos c11] at H
        have c11b0 : decide (x4_1 < (l0_1.length : Int)) = true := decide_eq_true c11
        clear c11
        by_cases c12 : 0 < ((rd_L1 l0_1 x4_1).length : Int)
        ·rw [if_pos c12] at H
         have c12b0 : decide (0 < ((rd_L1 l0_1 x4_1).length : Int)) = true := decide_eq_true c12
         have c12b1 : decide (0 < (rd_L1 l0_1 x4_1).length) = true := decide_eq_true (by omega)
         clear c12
         by_cases c13 : (rd (rd_L1 l0_1 x4_1) 0) = (wrap64 (1 - (Int.tmod x4_1 2)))
         ·rw [if_pos c13] at H
          have c13b0 : ((rd (rd_L1 l0_1 x4_1) 0) == (wrap64 (1 - (Int.tmod x4_1 2)))) = true := beq_iff_eq.mpr c13
          have c13b1 : ((rd (rd_L1 l0_1 x4_1) 0) != (wrap64 (1 - (Int.tmod x4_1 2)))) = false := bne_eq_false_iff_eq.mpr c13
          clear c13
          by_cases c14 : 0 ≤ a0_0
          ·rw [if_pos c14] at H
           have c14b0 : decide (0 ≤ a0_0) = true := decide_eq_true c14
           clear c14
           by_cases c15 : a0_0 < ((rd_L1 l0_1 x4_1).length : Int)
           ·rw [if_pos c15] at H
            have c15b0 : decide (a0_0 < ((rd_L1 l0_1 x4_1).length : Int)) = true := decide_eq_true c15
            clear c15
            by_cases c16 : (rd (rd_L1 l0_1 x4_1) a0_0) = (Int.tmod (wrap64 (a0_0 + x4_1)) 2)
            ·rw [if_pos c16] at H
             have c16b0 : ((rd (rd_L1 l0_1 x4_1) a0_0) == (Int.tmod (wrap64 (a0_0 + x4_1)) 2)) = true := beq_iff_eq.mpr c16
             have c16b1 : ((rd (rd_L1 l0_1 x4_1) a0_0) != (Int.tmod (wrap64 (a0_0 + x4_1)) 2)) = false := bne_eq_false_iff_eq.mpr c16
             clear c16
             by_cases c17 : 0 < (l0_2.length : Int)
             ·rw [if_pos c17] at H
              have c17b0 : decide (0 < (l0_2.length : Int)) = true := decide_eq_true c17
              have c17b1 : decide (0 < l0_2.length) = true := decide_eq_true (by omega)
              clear c17
              by_cases c18 : x4_1 < ((rd_L1 l0_2 0).length : Int)
              ·rw [if_pos c18] at H
               have c18b0 : decide (x4_1 < ((rd_L1 l0_2 0).length : Int)) = true := decide_eq_true c18
               clear c18
               by_cases c19 : (rd (rd_L1 l0_2 0) x4_1) = (Int.tmod x4_1 2)
               ·rw [if_pos c19] at H
                have c19b0 : ((rd (rd_L1 l0_2 0) x4_1) == (Int.tmod x4_1 2)) = true := beq_iff_eq.mpr c19
                have c19b1 : ((rd (rd_L1 l0_2 0) x4_1) != (Int.tmod x4_1 2)) = false := bne_eq_false_iff_eq.mpr c19
                clear c19
                by_cases c20 : a0_0 < (l0_2.length : Int)
                ·rw [if_pos c20] at H
                 have c20b0 : decide (a0_0 < (l0_2.length : Int)) = true := decide_eq_true c20
                 clear c20
                 by_cases c21 : x4_1 < ((rd_L1 l0_2 a0_0).length : Int)
                 ·rw [if_pos c21] at H
                  have c21b0 : decide (x4_1 < ((rd_L1 l0_2 a0_0).length : Int)) = true := decide_eq_true c21
                  clear c21
                  have H' := Aside0.mk H
                  clear H
                  have hcz22_0 : wr.cell? ⟨gb236, 0, none⟩ = some (.int .i64 a0_0) := (blk_cell BK236.out 0).trans rfl
                  have hcz22_1 : wr.cell? ⟨gb236, 1, none⟩ = some (.slice A0_1 l0_1.length c0_1) := (blk_cell BK236.out 1).trans rfl
                  have hcz22_2 : wr.cell? ⟨gb236, 2, none⟩ = some (.slice A0_2 l0_2.length c0_2) := (blk_cell BK236.out 2).trans rfl
                  have hfz22_0 := blk_frozen BK236.out 0
                  have hfz22_1 := blk_frozen BK236.out 1
                  have hfz22_2 := blk_frozen BK236.out 2
                  have p238 : 0 ≤ (x4_1 : Int) := of_decide_eq_true (by first | (with_reducible assumption) | assumption)
                  have q238 : x4_1 < (l0_1.length : Int) := of_decide_eq_true (by first | (with_reducible assumption) | assumption)
                  obtain ⟨ad238, A238_0, c238_0, e238, hx238_0, hl238_0, hi238_0⟩ := at_L1 HR0_1.out x4_1 p238 q238
                  cases e238
                  (try replace hx238_0 := (HB.out.cell (World.block_lt_of_cell? w _ hx238_0)).trans hx238_0)
                  have HR238_0 := Aside0.mk hi238_0
                  have HC238_0 := Aside0.mk hl238_0
                  clear hi238_0 hl238_0
                  replace p238 := eq_true p238
                  replace q238 := eq_true q238
                  have p239 : 0 ≤ (0 : Int) := (by omega)
                  have q239 : 0 < ((rd_L1 l0_1 x4_1).length : Int) := of_decide_eq_true (by first | (with_reducible assumption) | assumption)
                  obtain ⟨ad239, e239, hx239_0⟩ := Kd.at_int HR238_0.out 0 p239 q239
                  cases e239
                  have qi239 : (0 < (rd_L1 l0_1 x4_1).length) = True := eq_true (by omega)
                  (try rw [show ((0 : Int)).toNat = 0 from rfl] at hx239_0)
                  (try rw [Addr.add_zero'] at hx239_0)
                  (try replace hx239_0 := (HB.out.cell (World.block_lt_of_cell? w _ hx239_0)).trans hx239_0)
                  replace p239 := eq_true p239
                  replace q239 := eq_true q239
                  have p240 : 0 ≤ (x4_1 : Int) := of_decide_eq_true (by first | (with_reducible assumption) | assumption)
                  have q240 : x4_1 < (l0_1.length : Int) := of_decide_eq_true (by first | (with_reducible assumption) | assumption)
                  obtain ⟨ad240, A240_0, c240_0, e240, hx240_0, hl240_0, hi240_0⟩ := at_L1 HR0_1.out x4_1 p240 q240
                  obtain rfl : ad238 = ad240 := (by injection e240)
                  (try replace hx240_0 := (HB.out.cell (World.block_lt_of_cell? w _ hx240_0)).trans hx240_0)
                  have HR240_0 := Aside0.mk hi240_0
                  have HC240_0 := Aside0.mk hl240_0
                  clear hi240_0 hl240_0
                  replace p240 := eq_true p240
                  replace q240 := eq_true q240
                  have ea_ := Option.some.inj (hx238_0.symm.trans hx240_0)
                  injection ea_ with ea_ en_ ec_
                  subst ea_
                  subst ec_
                  clear en_
                  have p241 : 0 ≤ (a0_0 : Int) := of_decide_eq_true (by first | (with_reducible assumption) | assumption)
                  have q241 : a0_0 < ((rd_L1 l0_1 x4_1).length : Int) := of_decide_eq_true (by first | (with_reducible assumption) | assumption)
                  obtain ⟨ad241, e241, hx241_0⟩ := Kd.at_int HR240_0.out a0_0 p241 q241
                  cases e241
                  (try replace hx241_0 := (HB.out.cell (World.block_lt_of_cell? w _ hx241_0)).trans hx241_0)
                  replace p241 := eq_true p241
                  replace q241 := eq_true q241
                  have p242 : 0 ≤ (0 : Int) := (by omega)
                  have q242 : 0 < (l0_2.length : Int) := of_decide_eq_true (by first | (with_reducible assumption) | assumption)
                  obtain ⟨ad242, A242_0, c242_0, e242, hx242_0, hl242_0, hi242_0⟩ := at_L1 HR0_2.out 0 p242 q242
                  cases e242
                  have qi242 : (0 < l0_2.length) = True := eq_true (by omega)
                  (try rw [show ((0 : Int)).toNat = 0 from rfl] at hx242_0)
                  (try rw [Addr.add_zero'] at hx242_0)
                  (try replace hx242_0 := (HB.out.cell (World.block_lt_of_cell? w _ hx242_0)).trans hx242_0)
                  have HR242_0 := Aside0.mk hi242_0
                  have HC242_0 := Aside0.mk hl242_0
                  clear hi242_0 hl242_0
                  replace p242 := eq_true p242
                  replace q242 := eq_true q242
                  have p243 : 0 ≤ (x4_1 : Int) := of_decide_eq_true (by first | (with_reducible assumption) | assumption)
                  have q243 : x4_1 < ((rd_L1 l0_2 0).length : Int) := of_decide_eq_true (by first | (with_reducible assumption) | assumption)
                  obtain ⟨ad243, e243, hx243_0⟩ := Kd.at_int HR242_0.out x4_1 p243 q243
                  cases e243
                  (try replace hx243_0 := (HB.out.cell (World.block_lt_of_cell? w _ hx243_0)).trans hx243_0)
                  replace p243 := eq_true p243
                  replace q243 := eq_true q243
                  have p244 : 0 ≤ (a0_0 : Int) := of_decide_eq_true (by first | (with_reducible assumption) | assumption)
                  have q244 : a0_0 < (l0_2.length : Int) := of_decide_eq_true (by first | (with_reducible assumption) | assumption)
                  obtain ⟨ad244, A244_0, c244_0, e244, hx244_0, hl244_0, hi244_0⟩ := at_L1 HR0_2.out a0_0 p244 q244
                  obtain rfl : ad242 = ad244 := (by injection e244)
                  (try replace hx244_0 := (HB.out.cell (World.block_lt_of_cell? w _ hx244_0)).trans hx244_0)
                  have HR244_0 := Aside0.mk hi244_0
                  have HC244_0 := Aside0.mk hl244_0
                  clear hi244_0 hl244_0
                  replace p244 := eq_true p244
                  replace q244 := eq_true q244
                  have p245 : 0 ≤ (x4_1 : Int) := of_decide_eq_true (by first | (with_reducible assumption) | assumption)
                  have q245 : x4_1 < ((rd_L1 l0_2 a0_0).length : Int) := of_decide_eq_true (by first | (with_reducible assumption) | assumption)
                  obtain ⟨ad245, e245, hx245_0⟩ := Kd.at_int HR244_0.out x4_1 p245 q245
                  cases e245
                  (try replace hx245_0 := (HB.out.cell (World.block_lt_of_cell? w _ hx245_0)).trans hx245_0)
                  replace p245 := eq_true p245
                  replace q245 := eq_true q245
                  go_wp2
                  repeat (go_quiet (fail); try go_wp2)
                  go_meet
                  case rel => exact ⟨_, (((rd (rd_L1 l0_2 a0_0) x4_1) != (wrap64 (1 - (Int.tmod (wrap64 (a0_0 + x4_1)) 2))))), (by first | rfl | (simp; done) | (simp [*]; done)), H', ⟨by have := HK1.out; first | omega | exact Nat.le_refl _⟩, ⟨by (with_reducible repeat (first | refine blk_drewN ?_ _ | refine blk_drew ?_ | refine blk_alloc ?_ _)); exact BK236.out⟩, ⟨by repeat (first | (with_reducible first | exact HB.out | apply below_alloc | apply pw_below_drewN | apply below_drew1 | refine below_set ?_ GE236.out) | exact HB.out)⟩⟩
                 ·rw [if_neg c21] at H
                  exact absurd H (by simp)
                ·rw [if_neg c20] at H
                 exact absurd H (by simp)
               ·rw [if_neg c19] at H
                have c19b0 : ((rd (rd_L1 l0_2 0) x4_1) == (Int.tmod x4_1 2)) = false := beq_eq_false_iff_ne.mpr c19
                have c19b1 : ((rd (rd_L1 l0_2 0) x4_1) != (Int.tmod x4_1 2)) = true := bne_iff_ne.mpr c19
                have H' := Aside0.mk H
                clear H
                have hcz23_0 : wr.cell? ⟨gb236, 0, none⟩ = some (.int .i64 a0_0) := (blk_cell BK236.out 0).trans rfl
                have hcz23_1 : wr.cell? ⟨gb236, 1, none⟩ = some (.slice A0_1 l0_1.length c0_1) := (blk_cell BK236.out 1).trans rfl
                have hcz23_2 : wr.cell? ⟨gb236, 2, none⟩ = some (.slice A0_2 l0_2.length c0_2) := (blk_cell BK236.out 2).trans rfl
                have hfz23_0 := blk_frozen BK236.out 0
                have hfz23_1 := blk_frozen BK236.out 1
                have hfz23_2 := blk_frozen BK236.out 2
                have p238 : 0 ≤ (x4_1 : Int) := of_decide_eq_true (by first | (with_reducible assumption) | assumption)
                have q238 : x4_1 < (l0_1.length : Int) := of_decide_eq_true (by first | (with_reducible assumption) | assumption)
                obtain ⟨ad238, A238_0, c238_0, e238, hx238_0, hl238_0, hi238_0⟩ := at_L1 HR0_1.out x4_1 p238 q238
                cases e238
                (try replace hx238_0 := (HB.out.cell (World.block_lt_of_cell? w _ hx238_0)).trans hx238_0)
                have HR238_0 := Aside0.mk hi238_0
                have HC238_0 := Aside0.mk hl238_0
                clear hi238_0 hl238_0
                replace p238 := eq_true p238
                replace q238 := eq_true q238
                have p239 : 0 ≤ (0 : Int) := (by omega)
                have q239 : 0 < ((rd_L1 l0_1 x4_1).length : Int) := of_decide_eq_true (by first | (with_reducible assumption) | assumption)
                obtain ⟨ad239, e239, hx239_0⟩ := Kd.at_int HR238_0.out 0 p239 q239
                cases e239
                have qi239 : (0 < (rd_L1 l0_1 x4_1).length) = True := eq_true (by omega)
                (try rw [show ((0 : Int)).toNat = 0 from rfl] at hx239_0)
                (try rw [Addr.add_zero'] at hx239_0)
                (try replace hx239_0 := (HB.out.cell (World.block_lt_of_cell? w _ hx239_0)).trans hx239_0)
                replace p239 := eq_true p239
                replace q239 := eq_true q239
                have p240 : 0 ≤ (x4_1 : Int) := of_decide_eq_true (by first | (with_reducible assumption) | assumption)
                have q240 : x4_1 < (l0_1.length : Int) := of_decide_eq_true (by first | (with_reducible assumption) | assumption)
                obtain ⟨ad240, A240_0, c240_0, e240, hx240_0, hl240_0, hi240_0⟩ := at_L1 HR0_1.out x4_1 p240 q240
                obtain rfl : ad238 = ad240 := (by injection e240)
                (try replace hx240_0 := (HB.out.cell (World.block_lt_of_cell? w _ hx240_0)).trans hx240_0)
                have HR240_0 := Aside0.mk hi240_0
                have HC240_0 := Aside0.mk hl240_0
                clear hi240_0 hl240_0
                replace p240 := eq_true p240
                replace q240 := eq_true q240
                have ea_ := Option.some.inj (hx238_0.symm.trans hx240_0)
                injection ea_ with ea_ en_ ec_
                subst ea_
                subst ec_
                clear en_
                have p241 : 0 ≤ (a0_0 : Int) := of_decide_eq_true (by first | (with_reducible assumption) | assumption)
                have q241 : a0_0 < ((rd_L1 l0_1 x4_1).length : Int) := of_decide_eq_true (by first | (with_reducible assumption) | assumption)
                obtain ⟨ad241, e241, hx241_0⟩ := Kd.at_int HR240_0.out a0_0 p241 q241
                cases e241
                (try replace hx241_0 := (HB.out.cell (World.block_lt_of_cell? w _ hx241_0)).trans hx241_0)
                replace p241 := eq_true p241
                replace q241 := eq_true q241
                have p242 : 0 ≤ (0 : Int) := (by omega)
                have q242 : 0 < (l0_2.length : Int) := of_decide_eq_true (by first | (with_reducible assumption) | assumption)
                obtain ⟨ad242, A242_0, c242_0, e242, hx242_0, hl242_0, hi242_0⟩ := at_L1 HR0_2.out 0 p242 q242
                cases e242
                have qi242 : (0 < l0_2.length) = True := eq_true (by omega)
                (try rw [show ((0 : Int)).toNat = 0 from rfl] at hx242_0)
                (try rw [Addr.add_zero'] at hx242_0)
                (try replace hx242_0 := (HB.out.cell (World.block_lt_of_cell? w _ hx242_0)).trans hx242_0)
                have HR242_0 := Aside0.mk hi242_0
                have HC242_0 := Aside0.mk hl242_0
                clear hi242_0 hl242_0
                replace p242 := eq_true p242
                replace q242 := eq_true q242
                have p243 : 0 ≤ (x4_1 : Int) := of_decide_eq_true (by first | (with_reducible assumption) | assumption)
                have q243 : x4_1 < ((rd_L1 l0_2 0).length : Int) := of_decide_eq_true (by first | (with_reducible assumption) | assumption)
                obtain ⟨ad243, e243, hx243_0⟩ := Kd.at_int HR242_0.out x4_1 p243 q243
                cases e243
                (try replace hx243_0 := (HB.out.cell (World.block_lt_of_cell? w _ hx243_0)).trans hx243_0)
                replace p243 := eq_true p243
                replace q243 := eq_true q243
                go_wp2
                repeat (go_quiet (fail); try go_wp2)
                go_meet
                case rel => exact ⟨_, (true), (by first | rfl | (simp; done) | (simp [*]; done)), H', ⟨by have := HK1.out; first | omega | exact Nat.le_refl _⟩, ⟨by (with_reducible repeat (first | refine blk_drewN ?_ _ | refine blk_drew ?_ | refine blk_alloc ?_ _)); exact BK236.out⟩, ⟨by repeat (first | (with_reducible first | exact HB.out | apply below_alloc | apply pw_below_drewN | apply below_drew1 | refine below_set ?_ GE236.out) | exact HB.out)⟩⟩
              ·rw [if_neg c18] at H
               exact absurd H (by simp)
             ·rw [if_neg c17] at H
              exact absurd H (by simp)
            ·rw [if_neg c16] at H
             have c16b0 : ((rd (rd_L1 l0_1 x4_1) a0_0) == (Int.tmod (wrap64 (a0_0 + x4_1)) 2)) = false := beq_eq_false_iff_ne.mpr c16
             have c16b1 : ((rd (rd_L1 l0_1 x4_1) a0_0) != (Int.tmod (wrap64 (a0_0 + x4_1)) 2)) = true := bne_iff_ne.mpr c16
             have H' := Aside0.mk H
             clear H
             have hcz24_0 : wr.cell? ⟨gb236, 0, none⟩ = some (.int .i64 a0_0) := (blk_cell BK236.out 0).trans rfl
             have hcz24_1 : wr.cell? ⟨gb236, 1, none⟩ = some (.slice A0_1 l0_1.length c0_1) := (blk_cell BK236.out 1).trans rfl
             have hcz24_2 : wr.cell? ⟨gb236, 2, none⟩ = some (.slice A0_2 l0_2.length c0_2) := (blk_cell BK236.out 2).trans rfl
             have hfz24_0 := blk_frozen BK236.out 0
             have hfz24_1 := blk_frozen BK236.out 1
             have hfz24_2 := blk_frozen BK236.out 2
             have p238 : 0 ≤ (x4_1 : Int) := of_decide_eq_true (by first | (with_reducible assumption) | assumption)
             have q238 : x4_1 < (l0_1.length : Int) := of_decide_eq_true (by first | (with_reducible assumption) | assumption)
             obtain ⟨ad238, A238_0, c238_0, e238, hx238_0, hl238_0, hi238_0⟩ := at_L1 HR0_1.out x4_1 p238 q238
             cases e238
             (try replace hx238_0 := (HB.out.cell (World.block_lt_of_cell? w _ hx238_0)).trans hx238_0)
             have HR238_0 := Aside0.mk hi238_0
             have HC238_0 := Aside0.mk hl238_0
             clear hi238_0 hl238_0
             replace p238 := eq_true p238
             replace q238 := eq_true q238
             have p239 : 0 ≤ (0 : Int) := (by omega)
             have q239 : 0 < ((rd_L1 l0_1 x4_1).length : Int) := of_decide_eq_true (by first | (with_reducible assumption) | assumption)
             obtain ⟨ad239, e239, hx239_0⟩ := Kd.at_int HR238_0.out 0 p239 q239
             cases e239
             have qi239 : (0 < (rd_L1 l0_1 x4_1).length) = True := eq_true (by omega)
             (try rw [show ((0 : Int)).toNat = 0 from rfl] at hx239_0)
             (try rw [Addr.add_zero'] at hx239_0)
             (try replace hx239_0 := (HB.out.cell (World.block_lt_of_cell? w _ hx239_0)).trans hx239_0)
             replace p239 := eq_true p239
             replace q239 := eq_true q239
             have p240 : 0 ≤ (x4_1 : Int) := of_decide_eq_true (by first | (with_reducible assumption) | assumption)
             have q240 : x4_1 < (l0_1.length : Int) := of_decide_eq_true (by first | (with_reducible assumption) | assumption)
             obtain ⟨ad240, A240_0, c240_0, e240, hx240_0, hl240_0, hi240_0⟩ := at_L1 HR0_1.out x4_1 p240 q240
             obtain rfl : ad238 = ad240 := (by injection e240)
             (try replace hx240_0 := (HB.out.cell (World.block_lt_of_cell? w _ hx240_0)).trans hx240_0)
             have HR240_0 := Aside0.mk hi240_0
             have HC240_0 := Aside0.mk hl240_0
             clear hi240_0 hl240_0
             replace p240 := eq_true p240
             replace q240 := eq_true q240
             have ea_ := Option.some.inj (hx238_0.symm.trans hx240_0)
             injection ea_ with ea_ en_ ec_
             subst ea_
             subst ec_
             clear en_
             have p241 : 0 ≤ (a0_0 : Int) := of_decide_eq_true (by first | (with_reducible assumption) | assumption)
             have q241 : a0_0 < ((rd_L1 l0_1 x4_1).length : Int) := of_decide_eq_true (by first | (with_reducible assumption) | assumption)
             obtain ⟨ad241, e241, hx241_0⟩ := Kd.at_int HR240_0.out a0_0 p241 q241
             cases e241
             (try replace hx241_0 := (HB.out.cell (World.block_lt_of_cell? w _ hx241_0)).trans hx241_0)
             replace p241 := eq_true p241
             replace q241 := eq_true q241
             go_wp2
             repeat (go_quiet (fail); try go_wp2)
             go_meet
             case rel => exact ⟨_, (true), (by first | rfl | (simp; done) | (simp [*]; done)), H', ⟨by have := HK1.out; first | omega | exact Nat.le_refl _⟩, ⟨by (with_reducible repeat (first | refine blk_drewN ?_ _ | refine blk_drew ?_ | refine blk_alloc ?_ _)); exact BK236.out⟩, ⟨by repeat (first | (with_reducible first | exact HB.out | apply below_alloc | apply pw_below_drewN | apply below_drew1 | refine below_set ?_ GE236.out) | exact HB.out)⟩⟩
           ·rw [if_neg c15] at H
            exact absurd H (by simp)
          ·rw [if_neg c14] at H
           exact absurd H (by simp)
         ·rw [if_neg c13] at H
          have c13b0 : ((rd (rd_L1 l0_1 x4_1) 0) == (wrap64 (1 - (Int.tmod x4_1 2)))) = false := beq_eq_false_iff_ne.mpr c13
          have c13b1 : ((rd (rd_L1 l0_1 x4_1) 0) != (wrap64 (1 - (Int.tmod x4_1 2)))) = true := bne_iff_ne.mpr c13
          have H' := Aside0.mk H
          clear H
          have hcz25_0 : wr.cell? ⟨gb236, 0, none⟩ = some (.int .i64 a0_0) := (blk_cell BK236.out 0).trans rfl
          have hcz25_1 : wr.cell? ⟨gb236, 1, none⟩ = some (.slice A0_1 l0_1.length c0_1) := (blk_cell BK236.out 1).trans rfl
          have hcz25_2 : wr.cell? ⟨gb236, 2, none⟩ = some (.slice A0_2 l0_2.length c0_2) := (blk_cell BK236.out 2).trans rfl
          have hfz25_0 := blk_frozen BK236.out 0
          have hfz25_1 := blk_frozen BK236.out 1
          have hfz25_2 := blk_frozen BK236.out 2
          have p238 : 0 ≤ (x4_1 : Int) := of_decide_eq_true (by first | (with_reducible assumption) | assumption)
          have q238 : x4_1 < (l0_1.length : Int) := of_decide_eq_true (by first | (with_reducible assumption) | assumption)
          obtain ⟨ad238, A238_0, c238_0, e238, hx238_0, hl238_0, hi238_0⟩ := at_L1 HR0_1.out x4_1 p238 q238
          cases e238
          (try replace hx238_0 := (HB.out.cell (World.block_lt_of_cell? w _ hx238_0)).trans hx238_0)
          have HR238_0 := Aside0.mk hi238_0
          have HC238_0 := Aside0.mk hl238_0
          clear hi238_0 hl238_0
          replace p238 := eq_true p238
          replace q238 := eq_true q238
          have p239 : 0 ≤ (0 : Int) := (by omega)
          have q239 : 0 < ((rd_L1 l0_1 x4_1).length : Int) := of_decide_eq_true (by first | (with_reducible assumption) | assumption)
          obtain ⟨ad239, e239, hx239_0⟩ := Kd.at_int HR238_0.out 0 p239 q239
          cases e239
          have qi239 : (0 < (rd_L1 l0_1 x4_1).length) = True := eq_true (by omega)
          (try rw [show ((0 : Int)).toNat = 0 from rfl] at hx239_0)
          (try rw [Addr.add_zero'] at hx239_0)
          (try replace hx239_0 := (HB.out.cell (World.block_lt_of_cell? w _ hx239_0)).trans hx239_0)
          replace p239 := eq_true p239
          replace q239 := eq_true q239
          go_wp2
          repeat (go_quiet (fail); try go_wp2)
          go_meet
          case rel => exact ⟨_, (true), (by first | rfl | (simp; done) | (simp [*]; done)), H', ⟨by have := HK1.out; first | omega | exact Nat.le_refl _⟩, ⟨by (with_reducible repeat (first | refine blk_drewN ?_ _ | refine blk_drew ?_ | refine blk_alloc ?_ _)); exact BK236.out⟩, ⟨by repeat (first | (with_reducible first | exact HB.out | apply below_alloc | apply pw_below_drewN | apply below_drew1 | refine below_set ?_ GE236.out) | exact HB.out)⟩⟩
        ·rw [if_neg c12] at H
         exact absurd H (by simp)
       ·rw [if_neg c11] at H
        exact absurd H (by simp)
      ·rw [if_neg c10] at H
       exact absurd H (by simp)
     case rest =>
      clear HC9
      try clear c1
      try clear c2
      try clear p2
      try clear q2
      try clear hx2
      try clear qi2
      try clear c3
      try clear p6
      try clear c8
      try clear c8b0
      try clear c10
      try clear c10b0
      try clear c11
      try clear c11b0
      try clear c12
      try clear c12b0
      try clear c12b1
      try clear c13
      try clear c13b0
      try clear c13b1
      try clear c14
      try clear c14b0
      try clear c15
      try clear c15b0
      try clear c16
      try clear c16b0
      try clear c16b1
      try clear c17
      try clear c17b0
      try clear c17b1
      try clear c18
      try clear c18b0
      try clear c19
      try clear c19b0
      try clear c19b1
      try clear c20
      try clear c20b0
      try clear c21
      try clear c21b0
      try clear c23
      try clear p23
      try clear q23
      try clear hx23
      try clear qi23
      try clear c24
      try clear p24
      try clear q24
      try clear hx24
      try clear qi24
      try clear hcz22_0
      try clear hcz22_1
      try clear hcz22_2
      try clear hcz23_0
      try clear hcz23_1
      try clear hcz23_2
      try clear hcz24_0
      try clear hcz24_1
      try clear hcz24_2
      try clear hcz25_0
      try clear hcz25_1
      try clear hcz25_2
      try clear hcz5_0
      try clear hcz5_1
      try clear hcz5_2
      try clear hcz7_0
      try clear hcz7_1
      try clear hcz7_2
      try clear hfz22_0
      try clear hfz22_1
      try clear hfz22_2
      try clear hfz23_0
      try clear hfz23_1
      try clear hfz23_2
      try clear hfz24_0
      try clear hfz24_1
      try clear hfz24_2
      try clear hfz25_0
      try clear hfz25_1
      try clear hfz25_2
      try clear hfz5_0
      try clear hfz5_1
      try clear hfz5_2
      try clear hfz7_0
      try clear hfz7_1
      try clear hfz7_2
      try clear hx238_0
      try clear hx239_0
      try clear hx240_0
      try clear hx241_0
      try clear hx242_0
      try clear hx243_0
      try clear hx244_0
      try clear hx245_0
      try clear p2
      try clear p238
      try clear p239
      try clear p240
      try clear p241
      try clear p242
      try clear p243
      try clear p244
      try clear p245
      try clear q238
      try clear q239
      try clear q240
      try clear q241
      try clear q242
      try clear q243
      try clear q244
      try clear q245
      obtain ⟨kq, x69_8, rfl, HA, HJ8, BK236, HB⟩ := hcut
      cases kq with
      | zero => exact absurd HA.out (by simp [spec_loGood.j1])
      | succ kj8 =>
       have H := HA.out
       clear HA
       simp only [spec_loGood.j1] at H
       by_cases c26 : x69_8 = true
       ·subst c26
        have H1 : (some false) = some r := by rw [if_pos rfl] at H; exact H
        clear H
        have H := H1
        clear H1
        obtain rfl := Option.some.inj H
        go_wp2
        repeat (go_quiet (fail); try go_wp2)
        go_ret
        exact ⟨by first | rfl | (simp [errW_none, errW_some] <;> rfl) | (simp [*, errW_none, errW_some] <;> rfl), by repeat (first | (with_reducible first | exact HB.out | apply below_alloc | apply pw_below_drewN | apply below_drew1 | refine below_set ?_ GE236.out) | exact HB.out)⟩
       ·replace c26 := Bool.eq_false_iff.mpr c26
        subst c26
        have H1 : (spec_loGood.l1 kj8 a0_0 x4_1 0 a0_0 l0_1 l0_2) = some r := by rw [if_neg (show ¬ (false = true) by decide)] at H; exact H
        clear H
        have H := H1
        clear H1
        have H' := Aside0.mk H
        clear H
        go_wp2
        repeat (go_quiet (fail); try go_wp2)
        go_loopg [5] kj8 (fun kq v5 w' => ∃ (x5_3 : Int), v5 = .int .i64 x5_3 ∧ Aside0 (spec_loGood.l1 kq a0_0 x4_1 x5_3 a0_0 l0_1 l0_2 = some r) ∧ Aside0 (kq ≤ kj8) ∧ Aside0 (w'.heap[gb236]? = some (.cells #[.int .i64 a0_0, (.slice A0_1 l0_1.length c0_1), (.slice A0_2 l0_2.length c0_2)] 25 (0, 0))) ∧ Aside0 (Below w.heap.size w w'))
        case atStart => exact ⟨(0), (by first | rfl | (simp; done) | (simp [*]; done)), H', ⟨Nat.le_refl _⟩, ⟨by (with_reducible repeat (first | refine blk_drewN ?_ _ | refine blk_drew ?_ | refine blk_alloc ?_ _)); exact BK236.out⟩, ⟨by repeat (first | (with_reducible first | exact HB.out | apply below_alloc | apply pw_below_drewN | apply below_drew1 | refine below_set ?_ GE236.out) | exact HB.out)⟩⟩
        case round =>
         clear H'
         try clear c1
         try clear c2
         try clear p2
         try clear q2
         try clear hx2
         try clear qi2
         try clear c3
         try clear p6
         try clear c8
         try clear c8b0
         try clear c10
         try clear c10b0
         try clear c11
         try clear c11b0
         try clear c12
         try clear c12b0
         try clear c12b1
         try clear c13
         try clear c13b0
         try clear c13b1
         try clear c14
         try clear c14b0
         try clear c15
         try clear c15b0
         try clear c16
         try clear c16b0
         try clear c16b1
         try clear c17
         try clear c17b0
         try clear c17b1
         try clear c18
         try clear c18b0
         try clear c19
         try clear c19b0
         try clear c19b1
         try clear c20
         try clear c20b0
         try clear c21
         try clear c21b0
         try clear c23
         try clear p23
         try clear q23
         try clear hx23
         try clear qi23
         try clear c24
         try clear p24
         try clear q24
         try clear hx24
         try clear qi24
         try clear c26
         try clear hcz22_0
         try clear hcz22_1
         try clear hcz22_2
         try clear hcz23_0
         try clear hcz23_1
         try clear hcz23_2
         try clear hcz24_0
         try clear hcz24_1
         try clear hcz24_2
         try clear hcz25_0
         try clear hcz25_1
         try clear hcz25_2
         try clear hcz5_0
         try clear hcz5_1
         try clear hcz5_2
         try clear hcz7_0
         try clear hcz7_1
         try clear hcz7_2
         try clear hfz22_0
         try clear hfz22_1
         try clear hfz22_2
         try clear hfz23_0
         try clear hfz23_1
         try clear hfz23_2
         try clear hfz24_0
         try clear hfz24_1
         try clear hfz24_2
         try clear hfz25_0
         try clear hfz25_1
         try clear hfz25_2
         try clear hfz5_0
         try clear hfz5_1
         try clear hfz5_2
         try clear hfz7_0
         try clear hfz7_1
         try clear hfz7_2
         try clear hx238_0
         try clear hx239_0
         try clear hx240_0
         try clear hx241_0
         try clear hx242_0
         try clear hx243_0
         try clear hx244_0
         try clear hx245_0
         try clear p2
         try clear p23
         try clear p238
         try clear p239
         try clear p24
         try clear p240
         try clear p241
         try clear p242
         try clear p243
         try clear p244
         try clear p245
         try clear p6
         try clear q2
         try clear q23
         try clear q238
         try clear q239
         try clear q24
         try clear q240
         try clear q241
         try clear q242
         try clear q243
         try clear q244
         try clear q245
         obtain ⟨x5_3, rfl, HA, HK3, BK236, HB⟩ := hrel
         cases gk with
         | zero => exact absurd HA.out (by simp [spec_loGood.l1])
         | succ k3 =>
          have H := HA.out
          clear HA
          simp only [spec_loGood.l1] at H
          by_cases c27 : x5_3 < a0_0
          ·rw [if_pos c27] at H
           have c27b0 : decide (x5_3 < a0_0) = true := decide_eq_true c27
           clear c27
           by_cases c28 : 0 ≤ x4_1
           ·rw [if_pos c28] at H
            have c28b0 : decide (0 ≤ x4_1) = true := decide_eq_true c28
            clear c28
            by_cases c29 : x4_1 < (l0_1.length : Int)
            ·rw [if_pos c29] at H
             have c29b0 : decide (x4_1 < (l0_1.length : Int)) = true := decide_eq_true c29
             clear c29
             by_cases c30 : 0 ≤ x5_3
             ·rw [if_pos c30] at H
              have c30b0 : decide (0 ≤ x5_3) = true := decide_eq_true c30
              clear c30
              by_cases c31 : x5_3 < ((rd_L1 l0_1 x4_1).length : Int)
              ·rw [if_pos c31] at H
               have c31b0 : decide (x5_3 < ((rd_L1 l0_1 x4_1).length : Int)) = true := decide_eq_true c31
               clear c31
               obtain ⟨ji32, hji32⟩ : ∃ j_ : Int, (wrap64 (x5_3 + 1)) = j_ := ⟨_, rfl⟩
               replace H : (if 0 ≤ (ji32) then (if (ji32) < ((rd_L1 l0_1 x4_1).length : Int) then (if x4_1 < (l0_2.length : Int) then (if x5_3 < ((rd_L1 l0_2 x4_1).length : Int) then (if 0 ≤ (wrap64 (x4_1 + 1)) then (if (wrap64 (x4_1 + 1)) < (l0_2.length : Int) then (if x5_3 < ((rd_L1 l0_2 (wrap64 (x4_1 + 1))).length : Int) then (if (wrap64 ((wrap64 ((wrap64 ((rd (rd_L1 l0_1 x4_1) x5_3) + (rd (rd_L1 l0_1 x4_1) (ji32)))) + (rd (rd_L1 l0_2 x4_1) x5_3))) + (rd (rd_L1 l0_2 (wrap64 (x4_1 + 1))) x5_3))) = 2 then (spec_loGood.l1 k3 a0_0 x4_1 ji32 a0_0 l0_1 l0_2) else (some false)) else (none)) else (none)) else (none)) else (none)) else (none)) else (none)) else (none)) = some r := by first | (rw [hji32] at H; exact H) | (simp only [hji32] at H ⊢; exact H)
               have hji32w : (IntKind.i64.wrap (x5_3 + 1)) = ji32 := (i64_w _).trans hji32
               by_cases c33 : 0 ≤ (ji32)
               ·rw [if_pos c33] at H
                have c33b0 : decide (0 ≤ (ji32)) = true := decide_eq_true c33
                clear c33
                by_cases c34 : (ji32) < ((rd_L1 l0_1 x4_1).length : Int)
                ·rw [if_pos c34] at H
                 have c34b0 : decide ((ji32) < ((rd_L1 l0_1 x4_1).length : Int)) = true := decide_eq_true c34
                 clear c34
                 by_cases c35 : x4_1 < (l0_2.length : Int)
                 ·rw [if_pos c35] at H
                  have c35b0 : decide (x4_1 < (l0_2.length : Int)) = true := decide_eq_true c35
                  clear c35
                  by_cases c36 : x5_3 < ((rd_L1 l0_2 x4_1).length : Int)
                  ·rw [if_pos c36] at H
                   have c36b0 : decide (x5_3 < ((rd_L1 l0_2 x4_1).length : Int)) = true := decide_eq_true c36
                   clear c36
                   obtain ⟨ji37, hji37⟩ : ∃ j_ : Int, (wrap64 (x4_1 + 1)) = j_ := ⟨_, rfl⟩
                   replace H : (if 0 ≤ (ji37) then (if (ji37) < (l0_2.length : Int) then (if x5_3 < ((rd_L1 l0_2 (ji37)).length : Int) then (if (wrap64 ((wrap64 ((wrap64 ((rd (rd_L1 l0_1 x4_1) x5_3) + (rd (rd_L1 l0_1 x4_1) (ji32)))) + (rd (rd_L1 l0_2 x4_1) x5_3))) + (rd (rd_L1 l0_2 (ji37)) x5_3))) = 2 then (spec_loGood.l1 k3 a0_0 x4_1 ji32 a0_0 l0_1 l0_2) else (some false)) else (none)) else (none)) else (none)) = some r := by first | (rw [hji37] at H; exact H) | (simp only [hji37] at H ⊢; exact H)
                   have hji37w : (IntKind.i64.wrap (x4_1 + 1)) = ji37 := (i64_w _).trans hji37
                   by_cases c38 : 0 ≤ (ji37)
                   ·rw [if_pos c38] at H
                    have c38b0 : decide (0 ≤ (ji37)) = true := decide_eq_true c38
                    clear c38
                    by_cases c39 : (ji37) < (l0_2.length : Int)
                    ·rw [if_pos c39] at H
                     have c39b0 : decide ((ji37) < (l0_2.length : Int)) = true := decide_eq_true c39
                     clear c39
                     by_cases c40 : x5_3 < ((rd_L1 l0_2 (ji37)).length : Int)
                     ·rw [if_pos c40] at H
                      have c40b0 : decide (x5_3 < ((rd_L1 l0_2 (ji37)).length : Int)) = true := decide_eq_true c40
                      clear c40
                      by_cases c41 : (wrap64 ((wrap64 ((wrap64 ((rd (rd_L1 l0_1 x4_1) x5_3) + (rd (rd_L1 l0_1 x4_1) (ji32)))) + (rd (rd_L1 l0_2 x4_1) x5_3))) + (rd (rd_L1 l0_2 (ji37)) x5_3))) = 2
                      ·rw [if_pos c41] at H
                       have c41b0 : ((wrap64 ((wrap64 ((wrap64 ((rd (rd_L1 l0_1 x4_1) x5_3) + (rd (rd_L1 l0_1 x4_1) (ji32)))) + (rd (rd_L1 l0_2 x4_1) x5_3))) + (rd (rd_L1 l0_2 (ji37)) x5_3))) == 2) = true := beq_iff_eq.mpr c41
                       have c41b1 : ((wrap64 ((wrap64 ((wrap64 ((rd (rd_L1 l0_1 x4_1) x5_3) + (rd (rd_L1 l0_1 x4_1) (ji32)))) + (rd (rd_L1 l0_2 x4_1) x5_3))) + (rd (rd_L1 l0_2 (ji37)) x5_3))) != 2) = false := bne_eq_false_iff_eq.mpr c41
                       clear c41
                       have H' := Aside0.mk H
                       clear H
                       have hcz42_0 : wr.cell? ⟨gb236, 0, none⟩ = some (.int .i64 a0_0) := (blk_cell BK236.out 0).trans rfl
                       have hcz42_1 : wr.cell? ⟨gb236, 1, none⟩ = some (.slice A0_1 l0_1.length c0_1) := (blk_cell BK236.out 1).trans rfl
                       have hcz42_2 : wr.cell? ⟨gb236, 2, none⟩ = some (.slice A0_2 l0_2.length c0_2) := (blk_cell BK236.out 2).trans rfl
                       have hfz42_0 := blk_frozen BK236.out 0
                       have hfz42_1 := blk_frozen BK236.out 1
                       have hfz42_2 := blk_frozen BK236.out 2
                       have p246 : 0 ≤ (x4_1 : Int) := of_decide_eq_true (by first | (with_reducible assumption) | assumption)
                       have q246 : x4_1 < (l0_1.length : Int) := of_decide_eq_true (by first | (with_reducible assumption) | assumption)
                       obtain ⟨ad246, A246_0, c246_0, e246, hx246_0, hl246_0, hi246_0⟩ := at_L1 HR0_1.out x4_1 p246 q246
                       cases e246
                       (try replace hx246_0 := (HB.out.cell (World.block_lt_of_cell? w _ hx246_0)).trans hx246_0)
                       have HR246_0 := Aside0.mk hi246_0
                       have HC246_0 := Aside0.mk hl246_0
                       clear hi246_0 hl246_0
                       replace p246 := eq_true p246
                       replace q246 := eq_true q246
                       have p247 : 0 ≤ (x5_3 : Int) := of_decide_eq_true (by first | (with_reducible assumption) | assumption)
                       have q247 : x5_3 < ((rd_L1 l0_1 x4_1).length : Int) := of_decide_eq_true (by first | (with_reducible assumption) | assumption)
                       obtain ⟨ad247, e247, hx247_0⟩ := Kd.at_int HR246_0.out x5_3 p247 q247
                       cases e247
                       (try replace hx247_0 := (HB.out.cell (World.block_lt_of_cell? w _ hx247_0)).trans hx247_0)
                       replace p247 := eq_true p247
                       replace q247 := eq_true q247
                       have p248 : 0 ≤ (x4_1 : Int) := of_decide_eq_true (by first | (with_reducible assumption) | assumption)
                       have q248 : x4_1 < (l0_1.length : Int) := of_decide_eq_true (by first | (with_reducible assumption) | assumption)
                       obtain ⟨ad248, A248_0, c248_0, e248, hx248_0, hl248_0, hi248_0⟩ := at_L1 HR0_1.out x4_1 p248 q248
                       obtain rfl : ad246 = ad248 := (by injection e248)
                       (try replace hx248_0 := (HB.out.cell (World.block_lt_of_cell? w _ hx248_0)).trans hx248_0)
                       have HR248_0 := Aside0.mk hi248_0
                       have HC248_0 := Aside0.mk hl248_0
                       clear hi248_0 hl248_0
                       replace p248 := eq_true p248
                       replace q248 := eq_true q248
                       have ea_ := Option.some.inj (hx246_0.symm.trans hx248_0)
                       injection ea_ with ea_ en_ ec_
                       subst ea_
                       subst ec_
                       clear en_
                       have p249 : 0 ≤ ((ji32) : Int) := of_decide_eq_true (by first | (with_reducible assumption) | assumption)
                       have q249 : (ji32) < ((rd_L1 l0_1 x4_1).length : Int) := of_decide_eq_true (by first | (with_reducible assumption) | assumption)
                       obtain ⟨ad249, e249, hx249_0⟩ := Kd.at_int HR248_0.out (ji32) p249 q249
                       cases e249
                       (try replace hx249_0 := (HB.out.cell (World.block_lt_of_cell? w _ hx249_0)).trans hx249_0)
                       replace p249 := eq_true p249
                       replace q249 := eq_true q249
                       have p250 : 0 ≤ (x4_1 : Int) := of_decide_eq_true (by first | (with_reducible assumption) | assumption)
                       have q250 : x4_1 < (l0_2.length : Int) := of_decide_eq_true (by first | (with_reducible assumption) | assumption)
                       obtain ⟨ad250, A250_0, c250_0, e250, hx250_0, hl250_0, hi250_0⟩ := at_L1 HR0_2.out x4_1 p250 q250
                       cases e250
                       (try replace hx250_0 := (HB.out.cell (World.block_lt_of_cell? w _ hx250_0)).trans hx250_0)
                       have HR250_0 := Aside0.mk hi250_0
                       have HC250_0 := Aside0.mk hl250_0
                       clear hi250_0 hl250_0
                       replace p250 := eq_true p250
                       replace q250 := eq_true q250
                       have p251 : 0 ≤ (x5_3 : Int) := of_decide_eq_true (by first | (with_reducible assumption) | assumption)
                       have q251 : x5_3 < ((rd_L1 l0_2 x4_1).length : Int) := of_decide_eq_true (by first | (with_reducible assumption) | assumption)
                       obtain ⟨ad251, e251, hx251_0⟩ := Kd.at_int HR250_0.out x5_3 p251 q251
                       cases e251
                       (try replace hx251_0 := (HB.out.cell (World.block_lt_of_cell? w _ hx251_0)).trans hx251_0)
                       replace p251 := eq_true p251
                       replace q251 := eq_true q251
                       have p252 : 0 ≤ ((ji37) : Int) := of_decide_eq_true (by first | (with_reducible assumption) | assumption)
                       have q252 : (ji37) < (l0_2.length : Int) := of_decide_eq_true (by first | (with_reducible assumption) | assumption)
                       obtain ⟨ad252, A252_0, c252_0, e252, hx252_0, hl252_0, hi252_0⟩ := at_L1 HR0_2.out (ji37) p252 q252
                       obtain rfl : ad250 = ad252 := (by injection e252)
                       (try replace hx252_0 := (HB.out.cell (World.block_lt_of_cell? w _ hx252_0)).trans hx252_0)
                       have HR252_0 := Aside0.mk hi252_0
                       have HC252_0 := Aside0.mk hl252_0
                       clear hi252_0 hl252_0
                       replace p252 := eq_true p252
                       replace q252 := eq_true q252
                       have p253 : 0 ≤ (x5_3 : Int) := of_decide_eq_true (by first | (with_reducible assumption) | assumption)
                       have q253 : x5_3 < ((rd_L1 l0_2 (ji37)).length : Int) := of_decide_eq_true (by first | (with_reducible assumption) | assumption)
                       obtain ⟨ad253, e253, hx253_0⟩ := Kd.at_int HR252_0.out x5_3 p253 q253
                       cases e253
                       (try replace hx253_0 := (HB.out.cell (World.block_lt_of_cell? w _ hx253_0)).trans hx253_0)
                       replace p253 := eq_true p253
                       replace q253 := eq_true q253
                       go_wp2
                       repeat (go_quiet (fail); try go_wp2)
                       go_roundg k3
                       case measure => have := HK1.out; have := HJ8.out; have := HK3.out; omega
                       case rel => exact ⟨(ji32), (by first | rfl | (simp; done) | (simp only [← hji32] <;> (first | rfl | simp)) | (simp [*]; done)), H', ⟨by have := HK1.out; have := HJ8.out; have := HK3.out; omega⟩, ⟨by (with_reducible repeat (first | refine blk_drewN ?_ _ | refine blk_drew ?_ | refine blk_alloc ?_ _)); exact BK236.out⟩, ⟨by repeat (first | (with_reducible first | exact HB.out | apply below_alloc | apply pw_below_drewN | apply below_drew1 | refine below_set ?_ GE236.out) | exact HB.out)⟩⟩
                      ·rw [if_neg c41] at H
                       have c41b0 : ((wrap64 ((wrap64 ((wrap64 ((rd (rd_L1 l0_1 x4_1) x5_3) + (rd (rd_L1 l0_1 x4_1) (ji32)))) + (rd (rd_L1 l0_2 x4_1) x5_3))) + (rd (rd_L1 l0_2 (ji37)) x5_3))) == 2) = false := beq_eq_false_iff_ne.mpr c41
                       have c41b1 : ((wrap64 ((wrap64 ((wrap64 ((rd (rd_L1 l0_1 x4_1) x5_3) + (rd (rd_L1 l0_1 x4_1) (ji32)))) + (rd (rd_L1 l0_2 x4_1) x5_3))) + (rd (rd_L1 l0_2 (ji37)) x5_3))) != 2) = true := bne_iff_ne.mpr c41
                       obtain rfl := Option.some.inj H
                       have hcz43_0 : wr.cell? ⟨gb236, 0, none⟩ = some (.int .i64 a0_0) := (blk_cell BK236.out 0).trans rfl
                       have hcz43_1 : wr.cell? ⟨gb236, 1, none⟩ = some (.slice A0_1 l0_1.length c0_1) := (blk_cell BK236.out 1).trans rfl
                       have hcz43_2 : wr.cell? ⟨gb236, 2, none⟩ = some (.slice A0_2 l0_2.length c0_2) := (blk_cell BK236.out 2).trans rfl
                       have hfz43_0 := blk_frozen BK236.out 0
                       have hfz43_1 := blk_frozen BK236.out 1
                       have hfz43_2 := blk_frozen BK236.out 2
                       have p246 : 0 ≤ (x4_1 : Int) := of_decide_eq_true (by first | (with_reducible assumption) | assumption)
                       have q246 : x4_1 < (l0_1.length : Int) := of_decide_eq_true (by first | (with_reducible assumption) | assumption)
                       obtain ⟨ad246, A246_0, c246_0, e246, hx246_0, hl246_0, hi246_0⟩ := at_L1 HR0_1.out x4_1 p246 q246
                       cases e246
                       (try replace hx246_0 := (HB.out.cell (World.block_lt_of_cell? w _ hx246_0)).trans hx246_0)
                       have HR246_0 := Aside0.mk hi246_0
                       have HC246_0 := Aside0.mk hl246_0
                       clear hi246_0 hl246_0
                       replace p246 := eq_true p246
                       replace q246 := eq_true q246
                       have p247 : 0 ≤ (x5_3 : Int) := of_decide_eq_true (by first | (with_reducible assumption) | assumption)
                       have q247 : x5_3 < ((rd_L1 l0_1 x4_1).length : Int) := of_decide_eq_true (by first | (with_reducible assumption) | assumption)
                       obtain ⟨ad247, e247, hx247_0⟩ := Kd.at_int HR246_0.out x5_3 p247 q247
                       cases e247
                       (try replace hx247_0 := (HB.out.cell (World.block_lt_of_cell? w _ hx247_0)).trans hx247_0)
                       replace p247 := eq_true p247
                       replace q247 := eq_true q247
                       have p248 : 0 ≤ (x4_1 : Int) := of_decide_eq_true (by first | (with_reducible assumption) | assumption)
                       have q248 : x4_1 < (l0_1.length : Int) := of_decide_eq_true (by first | (with_reducible assumption) | assumption)
                       obtain ⟨ad248, A248_0, c248_0, e248, hx248_0, hl248_0, hi248_0⟩ := at_L1 HR0_1.out x4_1 p248 q248
                       obtain rfl : ad246 = ad248 := (by injection e248)
                       (try replace hx248_0 := (HB.out.cell (World.block_lt_of_cell? w _ hx248_0)).trans hx248_0)
                       have HR248_0 := Aside0.mk hi248_0
                       have HC248_0 := Aside0.mk hl248_0
                       clear hi248_0 hl248_0
                       replace p248 := eq_true p248
                       replace q248 := eq_true q248
                       have ea_ := Option.some.inj (hx246_0.symm.trans hx248_0)
                       injection ea_ with ea_ en_ ec_
                       subst ea_
                       subst ec_
                       clear en_
                       have p249 : 0 ≤ ((ji32) : Int) := of_decide_eq_true (by first | (with_reducible assumption) | assumption)
                       have q249 : (ji32) < ((rd_L1 l0_1 x4_1).length : Int) := of_decide_eq_true (by first | (with_reducible assumption) | assumption)
                       obtain ⟨ad249, e249, hx249_0⟩ := Kd.at_int HR248_0.out (ji32) p249 q249
                       cases e249
                       (try replace hx249_0 := (HB.out.cell (World.block_lt_of_cell? w _ hx249_0)).trans hx249_0)
                       replace p249 := eq_true p249
                       replace q249 := eq_true q249
                       have p250 : 0 ≤ (x4_1 : Int) := of_decide_eq_true (by first | (with_reducible assumption) | assumption)
                       have q250 : x4_1 < (l0_2.length : Int) := of_decide_eq_true (by first | (with_reducible assumption) | assumption)
                       obtain ⟨ad250, A250_0, c250_0, e250, hx250_0, hl250_0, hi250_0⟩ := at_L1 HR0_2.out x4_1 p250 q250
                       cases e250
                       (try replace hx250_0 := (HB.out.cell (World.block_lt_of_cell? w _ hx250_0)).trans hx250_0)
                       have HR250_0 := Aside0.mk hi250_0
                       have HC250_0 := Aside0.mk hl250_0
                       clear hi250_0 hl250_0
                       replace p250 := eq_true p250
                       replace q250 := eq_true q250
                       have p251 : 0 ≤ (x5_3 : Int) := of_decide_eq_true (by first | (with_reducible assumption) | assumption)
                       have q251 : x5_3 < ((rd_L1 l0_2 x4_1).length : Int) := of_decide_eq_true (by first | (with_reducible assumption) | assumption)
                       obtain ⟨ad251, e251, hx251_0⟩ := Kd.at_int HR250_0.out x5_3 p251 q251
                       cases e251
                       (try replace hx251_0 := (HB.out.cell (World.block_lt_of_cell? w _ hx251_0)).trans hx251_0)
                       replace p251 := eq_true p251
                       replace q251 := eq_true q251
                       have p252 : 0 ≤ ((ji37) : Int) := of_decide_eq_true (by first | (with_reducible assumption) | assumption)
                       have q252 : (ji37) < (l0_2.length : Int) := of_decide_eq_true (by first | (with_reducible assumption) | assumption)
                       obtain ⟨ad252, A252_0, c252_0, e252, hx252_0, hl252_0, hi252_0⟩ := at_L1 HR0_2.out (ji37) p252 q252
                       obtain rfl : ad250 = ad252 := (by injection e252)
                       (try replace hx252_0 := (HB.out.cell (World.block_lt_of_cell? w _ hx252_0)).trans hx252_0)
                       have HR252_0 := Aside0.mk hi252_0
                       have HC252_0 := Aside0.mk hl252_0
                       clear hi252_0 hl252_0
                       replace p252 := eq_true p252
                       replace q252 := eq_true q252
                       have p253 : 0 ≤ (x5_3 : Int) := of_decide_eq_true (by first | (with_reducible assumption) | assumption)
                       have q253 : x5_3 < ((rd_L1 l0_2 (ji37)).length : Int) := of_decide_eq_true (by first | (with_reducible assumption) | assumption)
                       obtain ⟨ad253, e253, hx253_0⟩ := Kd.at_int HR252_0.out x5_3 p253 q253
                       cases e253
                       (try replace hx253_0 := (HB.out.cell (World.block_lt_of_cell? w _ hx253_0)).trans hx253_0)
                       replace p253 := eq_true p253
                       replace q253 := eq_true q253
                       go_wp2
                       repeat (go_quiet (fail); try go_wp2)
                       go_ret
                       exact ⟨by first | rfl | (simp [errW_none, errW_some] <;> rfl) | (simp only [← hji32, ← hji37]; first | rfl | (simp [errW_none, errW_some] <;> rfl)) | (simp [*, errW_none, errW_some] <;> rfl), by repeat (first | (with_reducible first | exact HB.out | apply below_alloc | apply pw_below_drewN | apply below_drew1 | refine below_set ?_ GE236.out) | exact HB.out)⟩
                     ·rw [if_neg c40] at H
                      exact absurd H (by simp)
                    ·rw [if_neg c39] at H
                     exact absurd H (by simp)
                   ·rw [if_neg c38] at H
                    exact absurd H (by simp)
                  ·rw [if_neg c36] at H
                   exact absurd H (by simp)
                 ·rw [if_neg c35] at H
                  exact absurd H (by simp)
                ·rw [if_neg c34] at H
                 exact absurd H (by simp)
               ·rw [if_neg c33] at H
                exact absurd H (by simp)
              ·rw [if_neg c31] at H
               exact absurd H (by simp)
             ·rw [if_neg c30] at H
              exact absurd H (by simp)
            ·rw [if_neg c29] at H
             exact absurd H (by simp)
           ·rw [if_neg c28] at H
            exact absurd H (by simp)
          ·rw [if_neg c27] at H
           have c27b0 : decide (x5_3 < a0_0) = false := decide_eq_false c27
           clear c27
           have H' := Aside0.mk H
           clear H
           go_wp2
           repeat (go_quiet (fail); try go_wp2)
           go_roundg k3
           case measure => have := HK1.out; have := HJ8.out; have := HK3.out; omega
           case rel => exact ⟨(wrap64 (x4_1 + 1)), (by first | rfl | (simp; done) | (simp [*]; done)), H', ⟨by have := HK1.out; have := HJ8.out; have := HK3.out; omega⟩, ⟨by (with_reducible repeat (first | refine blk_drewN ?_ _ | refine blk_drew ?_ | refine blk_alloc ?_ _)); exact BK236.out⟩, ⟨by repeat (first | (with_reducible first | exact HB.out | apply below_alloc | apply pw_below_drewN | apply below_drew1 | refine below_set ?_ GE236.out) | exact HB.out)⟩⟩
    ·rw [if_neg c8] at H
     have c8b0 : decide (x4_1 < a0_0) = false := decide_eq_false c8
     clear c8
     obtain rfl := Option.some.inj H
     go_wp2
     repeat (go_quiet (fail); try go_wp2)
     go_ret
     exact ⟨by first | rfl | (simp [errW_none, errW_some] <;> rfl) | (simp [*, errW_none, errW_some] <;> rfl), by repeat (first | (with_reducible first | exact HB.out | apply below_alloc | apply pw_below_drewN | apply below_drew1 | refine below_set ?_ GE236.out) | exact HB.out)⟩
 ·replace c3 := Bool.eq_false_iff.mpr c3
  subst c3
  have H1 : (some false) = some r := by rw [if_neg (show ¬ (false = true) by decide)] at H; exact H
  clear H
  have H := H1
  clear H1
  obtain rfl := Option.some.inj H
  go_enter Try.func30, Try.ntmps30
  go_wp2_with (first | ((with_reducible refine gate_dst (N := 1) rfl ?_); refine box_event ?hg (N := 1) ?hd (cs := #[.int .i64 a0_0, .slice A0_1 l0_1.length c0_1, .slice A0_2 l0_2.length c0_2]) (t := 25) ?hr ?_; (case hd => rfl); (case hg => rfl); (case hr => first | (go_simp; done) | (go_simp; rfl)); intro gb236 hg w44 hbox hb; have n0_ := Aside0.mk (below_step (by repeat (first | (with_reducible first | exact HB.out | apply below_alloc | apply pw_below_drewN | apply below_drew1) | exact HB.out)) hb); have n1_ := Aside0.mk (hbox); have n2_ := Aside0.mk ((by rw [hg]; exact (below_size (by repeat (first | (with_reducible first | exact HB.out | apply below_alloc | apply pw_below_drewN | apply below_drew1) | exact HB.out))) : w.heap.size ≤ gb236)); have n3_ := Aside0.mk ((by rw [hg]; exact (below_size (by repeat (first | (with_reducible first | exact HB.out | apply below_alloc | apply pw_below_drewN | apply below_drew1) | exact HB.out))) : w.heap.size ≤ gb236)); clear HB; have HB := n0_; have BK236 := n1_; have GW236 := n2_; have GE236 := n3_; clear n0_ n1_ n2_ n3_; clear hb hbox hg; have hcz45_0 : w44.cell? ⟨gb236, 0, none⟩ = some (.int .i64 a0_0) := (blk_cell BK236.out 0).trans rfl; have hcz45_1 : w44.cell? ⟨gb236, 1, none⟩ = some (.slice A0_1 l0_1.length c0_1) := (blk_cell BK236.out 1).trans rfl; have hcz45_2 : w44.cell? ⟨gb236, 2, none⟩ = some (.slice A0_2 l0_2.length c0_2) := (blk_cell BK236.out 2).trans rfl; have hfz45_0 := blk_frozen BK236.out 0; have hfz45_1 := blk_frozen BK236.out 1; have hfz45_2 := blk_frozen BK236.out 2) | (go_at_call 49; (with_reducible refine (spec_loShape.calls k a0_0 _ _ l0_1 _ _ l0_2 false _ ?side1 ?side2 ?side3 ?side4 A2.out).mono ?_); (case side1 => repeat (first | exact (Kd.C_below HR0_1.out HB.out) | (with_reducible refine Kd.C_alloc ?_ _) | (with_reducible refine Kd.C_drewN ?_ _) | (with_reducible refine Kd.C_drew ?_))); (case side2 => exact HC0_1.out); (case side3 => repeat (first | exact (Kd.C_below HR0_2.out HB.out) | (with_reducible refine Kd.C_alloc ?_ _) | (with_reducible refine Kd.C_drewN ?_ _) | (with_reducible refine Kd.C_drew ?_))); (case side4 => exact HC0_2.out); rintro e w46 ⟨rfl, hb⟩; have n0_ := Aside0.mk (blk_below (g := gb236) (o := .cells #[.int .i64 a0_0, .slice A0_1 l0_1.length c0_1, .slice A0_2 l0_2.length c0_2] 25 (0, 0)) (by (with_reducible repeat (first | refine blk_drewN ?_ _ | refine blk_drew ?_ | refine blk_alloc ?_ _)); exact BK236.out) hb); have n1_ := Aside0.mk (below_step (by repeat (first | (with_reducible first | exact HB.out | apply below_alloc | apply pw_below_drewN | apply below_drew1 | refine below_set ?_ GE236.out) | exact HB.out)) hb); clear BK236; clear HB; have BK236 := n0_; have HB := n1_; clear n0_ n1_; (try clear hb); (try clear hb2); (try clear hk); (try clear hi)))
  repeat (go_quiet (first | ((with_reducible refine gate_dst (N := 1) rfl ?_); refine box_event ?hg (N := 1) ?hd (cs := #[.int .i64 a0_0, .slice A0_1 l0_1.length c0_1, .slice A0_2 l0_2.length c0_2]) (t := 25) ?hr ?_; (case hd => rfl); (case hg => rfl); (case hr => first | (go_simp; done) | (go_simp; rfl)); intro gb236 hg w44 hbox hb; have n0_ := Aside0.mk (below_step (by repeat (first | (with_reducible first | exact HB.out | apply below_alloc | apply pw_below_drewN | apply below_drew1) | exact HB.out)) hb); have n1_ := Aside0.mk (hbox); have n2_ := Aside0.mk ((by rw [hg]; exact (below_size (by repeat (first | (with_reducible first | exact HB.out | apply below_alloc | apply pw_below_drewN | apply below_drew1) | exact HB.out))) : w.heap.size ≤ gb236)); have n3_ := Aside0.mk ((by rw [hg]; exact (below_size (by repeat (first | (with_reducible first | exact HB.out | apply below_alloc | apply pw_below_drewN | apply below_drew1) | exact HB.out))) : w.heap.size ≤ gb236)); clear HB; have HB := n0_; have BK236 := n1_; have GW236 := n2_; have GE236 := n3_; clear n0_ n1_ n2_ n3_; clear hb hbox hg; have hcz45_0 : w44.cell? ⟨gb236, 0, none⟩ = some (.int .i64 a0_0) := (blk_cell BK236.out 0).trans rfl; have hcz45_1 : w44.cell? ⟨gb236, 1, none⟩ = some (.slice A0_1 l0_1.length c0_1) := (blk_cell BK236.out 1).trans rfl; have hcz45_2 : w44.cell? ⟨gb236, 2, none⟩ = some (.slice A0_2 l0_2.length c0_2) := (blk_cell BK236.out 2).trans rfl; have hfz45_0 := blk_frozen BK236.out 0; have hfz45_1 := blk_frozen BK236.out 1; have hfz45_2 := blk_frozen BK236.out 2) | (go_at_call 49; (with_reducible refine (spec_loShape.calls k a0_0 _ _ l0_1 _ _ l0_2 false _ ?side1 ?side2 ?side3 ?side4 A2.out).mono ?_); (case side1 => repeat (first | exact (Kd.C_below HR0_1.out HB.out) | (with_reducible refine Kd.C_alloc ?_ _) | (with_reducible refine Kd.C_drewN ?_ _) | (with_reducible refine Kd.C_drew ?_))); (case side2 => exact HC0_1.out); (case side3 => repeat (first | exact (Kd.C_below HR0_2.out HB.out) | (with_reducible refine Kd.C_alloc ?_ _) | (with_reducible refine Kd.C_drewN ?_ _) | (with_reducible refine Kd.C_drew ?_))); (case side4 => exact HC0_2.out); rintro e w46 ⟨rfl, hb⟩; have n0_ := Aside0.mk (blk_below (g := gb236) (o := .cells #[.int .i64 a0_0, .slice A0_1 l0_1.length c0_1, .slice A0_2 l0_2.length c0_2] 25 (0, 0)) (by (with_reducible repeat (first | refine blk_drewN ?_ _ | refine blk_drew ?_ | refine blk_alloc ?_ _)); exact BK236.out) hb); have n1_ := Aside0.mk (below_step (by repeat (first | (with_reducible first | exact HB.out | apply below_alloc | apply pw_below_drewN | apply below_drew1 | refine below_set ?_ GE236.out) | exact HB.out)) hb); clear BK236; clear HB; have BK236 := n0_; have HB := n1_; clear n0_ n1_; (try clear hb); (try clear hb2); (try clear hk); (try clear hi))); try go_wp2_with (first | ((with_reducible refine gate_dst (N := 1) rfl ?_); refine box_event ?hg (N := 1) ?hd (cs := #[.int .i64 a0_0, .slice A0_1 l0_1.length c0_1, .slice A0_2 l0_2.length c0_2]) (t := 25) ?hr ?_; (case hd => rfl); (case hg => rfl); (case hr => first | (go_simp; done) | (go_simp; rfl)); intro gb236 hg w44 hbox hb; have n0_ := Aside0.mk (below_step (by repeat (first | (with_reducible first | exact HB.out | apply below_alloc | apply pw_below_drewN | apply below_drew1) | exact HB.out)) hb); have n1_ := Aside0.mk (hbox); have n2_ := Aside0.mk ((by rw [hg]; exact (below_size (by repeat (first | (with_reducible first | exact HB.out | apply below_alloc | apply pw_below_drewN | apply below_drew1) | exact HB.out))) : w.heap.size ≤ gb236)); have n3_ := Aside0.mk ((by rw [hg]; exact (below_size (by repeat (first | (with_reducible first | exact HB.out | apply below_alloc | apply pw_below_drewN | apply below_drew1) | exact HB.out))) : w.heap.size ≤ gb236)); clear HB; have HB := n0_; have BK236 := n1_; have GW236 := n2_; have GE236 := n3_; clear n0_ n1_ n2_ n3_; clear hb hbox hg; have hcz45_0 : w44.cell? ⟨gb236, 0, none⟩ = some (.int .i64 a0_0) := (blk_cell BK236.out 0).trans rfl; have hcz45_1 : w44.cell? ⟨gb236, 1, none⟩ = some (.slice A0_1 l0_1.length c0_1) := (blk_cell BK236.out 1).trans rfl; have hcz45_2 : w44.cell? ⟨gb236, 2, none⟩ = some (.slice A0_2 l0_2.length c0_2) := (blk_cell BK236.out 2).trans rfl; have hfz45_0 := blk_frozen BK236.out 0; have hfz45_1 := blk_frozen BK236.out 1; have hfz45_2 := blk_frozen BK236.out 2) | (go_at_call 49; (with_reducible refine (spec_loShape.calls k a0_0 _ _ l0_1 _ _ l0_2 false _ ?side1 ?side2 ?side3 ?side4 A2.out).mono ?_); (case side1 => repeat (first | exact (Kd.C_below HR0_1.out HB.out) | (with_reducible refine Kd.C_alloc ?_ _) | (with_reducible refine Kd.C_drewN ?_ _) | (with_reducible refine Kd.C_drew ?_))); (case side2 => exact HC0_1.out); (case side3 => repeat (first | exact (Kd.C_below HR0_2.out HB.out) | (with_reducible refine Kd.C_alloc ?_ _) | (with_reducible refine Kd.C_drewN ?_ _) | (with_reducible refine Kd.C_drew ?_))); (case side4 => exact HC0_2.out); rintro e w46 ⟨rfl, hb⟩; have n0_ := Aside0.mk (blk_below (g := gb236) (o := .cells #[.int .i64 a0_0, .slice A0_1 l0_1.length c0_1, .slice A0_2 l0_2.length c0_2] 25 (0, 0)) (by (with_reducible repeat (first | refine blk_drewN ?_ _ | refine blk_drew ?_ | refine blk_alloc ?_ _)); exact BK236.out) hb); have n1_ := Aside0.mk (below_step (by repeat (first | (with_reducible first | exact HB.out | apply below_alloc | apply pw_below_drewN | apply below_drew1 | refine below_set ?_ GE236.out) | exact HB.out)) hb); clear BK236; clear HB; have BK236 := n0_; have HB := n1_; clear n0_ n1_; (try clear hb); (try clear hb2); (try clear hk); (try clear hi))))
  go_ret
  exact ⟨by first | rfl | (simp [errW_none, errW_some] <;> rfl) | (simp [*, errW_none, errW_some] <;> rfl), by repeat (first | (with_reducible first | exact HB.out | apply below_alloc | apply pw_below_drewN | apply below_drew1 | refine below_set ?_ GE236.out) | exact HB.out)⟩

end Go.Proofs.Ytbihfdadnkmckaa.P
