/- Texts of one chain, in build order. -/
import Derived.Test.YthbkjaieenochaaYSignsWithPattern27
namespace Go.Proofs.Ythbkjaieenochaa.P
open Go.RowKit Go.Proofs.YthbkjaieenochaaW.PrintWords Go.Proofs.YthbkjaieenochaaW.PrintLast Go.Proofs.YthbkjaieenochaaW.PrintMore
attribute [local go_sem] max2_int min2_int max_two min_two max_three min_three max_four min_four   -- for this text's walks alone
set_option linter.unusedVariables false
set_option linter.unusedSimpArgs false

mutual
def spec_loOf.l0 : Nat → List (List Int) → Int → List (List Int) → Int → Int → Int → List (List Int) → Option (Int × (List (List Int)) × (List (List Int)))
 | 0, _, _, _, _, _, _, _ => none
 | k + 1, x0, x3, x21, x22, x23, x177000, x177001 => if x23 < x22 then (if 0 ≤ x23 then (if x23 < (x21.length : Int) then (spec_loOf.l1 k x0 x3 x23 (rd_L1 x21 x23) ([] : List Int) 0 0 x21 x22 x23 x177000 x177001) else (none)) else (none)) else (if 0 ≤ x3 then (if (x3 : Int).toNat ≤ 35184372088832 then (spec_loOf.l2 k x0 x3 (List.replicate (x3 : Int).toNat 0) 0 x177000 x177001 ([] : List (List Int))) else (none)) else (none))
def spec_loOf.l1 : Nat → List (List Int) → Int → Int → List Int → List Int → Int → Int → List (List Int) → Int → Int → Int → List (List Int) → Option (Int × (List (List Int)) × (List (List Int)))
 | 0, _, _, _, _, _, _, _, _, _, _, _, _ => none
 | k + 1, x0, x3, x5, x6, x7, x8, x9, x21, x22, x23, x177000, x177001 => if x9 ≤ x3 then (if x7.length < 17592186044416 then ((some (x7 ++ [wrap64 (1 - (Int.tmod (wrap64 ((wrap64 (x8 + x5)) + x9)) 2))] : List Int)).bind fun y178 => (if x9 < x3 then (if 0 ≤ x9 then (if x9 < (x6.length : Int) then (spec_loOf.l1 k x0 x3 x5 x6 y178 (wrap64 (x8 + (rd x6 x9))) (wrap64 (x9 + 1)) x21 x22 x23 x177000 x177001) else (none)) else (none)) else (spec_loOf.l1 k x0 x3 x5 x6 y178 x8 (wrap64 (x9 + 1)) x21 x22 x23 x177000 x177001))) else (none)) else (if x177001.length < 5864062014805 then (spec_loOf.l0 k x0 x3 x21 x22 (wrap64 (x23 + 1)) x177000 (x177001 ++ [x7])) else (none))
def spec_loOf.l2 : Nat → List (List Int) → Int → List Int → Int → Int → List (List Int) → List (List Int) → Option (Int × (List (List Int)) × (List (List Int)))
 | 0, _, _, _, _, _, _, _ => none
 | k + 1, x0, x3, x10, x11, x177000, x177001, x177002 => if x11 ≤ x3 then (spec_loOf.l3 k x0 x3 x10 x11 ([] : List Int) x10 (x10.length : Int) 0 x177000 x177001 x177002) else (some (x177000, x177001, x177002))
def spec_loOf.l3 : Nat → List (List Int) → Int → List Int → Int → List Int → List Int → Int → Int → Int → List (List Int) → List (List Int) → Option (Int × (List (List Int)) × (List (List Int)))
 | 0, _, _, _, _, _, _, _, _, _, _, _ => none
 | k + 1, x0, x3, x10, x11, x12, x66, x67, x68, x177000, x177001, x177002 => if x68 < x67 then (if 0 ≤ x68 then (if x68 < (x66.length : Int) then (if x12.length < 17592186044416 then (spec_loOf.l3 k x0 x3 x10 x11 (x12 ++ [Int.tmod (wrap64 ((wrap64 ((rd x66 x68) + x11)) + x68)) 2]) x66 x67 (wrap64 (x68 + 1)) x177000 x177001 x177002) else (none)) else (none)) else (none)) else (if x177002.length < 5864062014805 then ((some (x177002 ++ [x12] : List (List Int))).bind fun y192 => (if x11 < x3 then (if 0 ≤ x11 then (if x11 < (x0.length : Int) then (spec_loOf.l4 k x0 x3 x10 x11 (rd_L1 x0 x11) ((rd_L1 x0 x11).length : Int) 0 x177000 x177001 y192) else (none)) else (none)) else (spec_loOf.l2 k x0 x3 x10 (wrap64 (x11 + 1)) x177000 x177001 y192))) else (none))
def spec_loOf.l4 : Nat → List (List Int) → Int → List Int → Int → List Int → Int → Int → Int → List (List Int) → List (List Int) → Option (Int × (List (List Int)) × (List (List Int)))
 | 0, _, _, _, _, _, _, _, _, _, _ => none
 | k + 1, x0, x3, x10, x11, x95, x96, x97, x177000, x177001, x177002 => if x97 < x96 then (if 0 ≤ x97 then (if x97 < (x95.length : Int) then (if x97 < (x10.length : Int) then (spec_loOf.l4 k x0 x3 (x10.set (x97 : Int).toNat (wrap64 ((rd x10 x97) + (rd x95 x97)))) x11 x95 x96 (wrap64 (x97 + 1)) x177000 x177001 x177002) else (none)) else (none)) else (none)) else (spec_loOf.l2 k x0 x3 x10 (wrap64 (x11 + 1)) x177000 x177001 x177002)
end
def spec_loOf.f (k : Nat) (l0 : List (List Int)) : Option (Int × (List (List Int)) × (List (List Int))) := spec_loOf.l0 k l0 (l0.length : Int) l0 (l0.length : Int) 0 (l0.length : Int) ([] : List (List Int))
set_option maxHeartbeats 8000000 in
set_option maxRecDepth 100000 in
theorem spec_loOf.calls (k : Nat) (A0 : Option Addr) (c0 : Nat) (l0 : List (List Int)) (r1 : Int) (r2 : List (List Int)) (r3 : List (List Int)) (w : World) (hr0 : Kd.C (Kd.slice 3 (Kd.int .i64)) w A0 l0.length l0) (hc0 : l0.length ≤ c0) (h : spec_loOf.f k l0 = some (r1, r2, r3)) :
  Calls Try.prog 42 #[.slice A0 l0.length c0] w fun e w' => ∃ v1_ v2_ : Value, e = .returned (.agg #[.int .i64 r1, v1_, v2_]) ∧ Kd.S (Kd.slice 3 (Kd.int .i64)) 28 w' w.heap.size (fun k_ => some k_ ≠ (v2_ : Value).ownBlock) v1_ r2 ∧ Kd.S (Kd.slice 3 (Kd.int .i64)) 28 w' w.heap.size (fun k_ => some k_ ≠ (v1_ : Value).ownBlock) v2_ r3 ∧ Below w.heap.size w w' := by
 have hu50 := Try.underlying50
 have HR0 := Aside0.mk hr0
 have HC0 := Aside0.mk hc0
 clear hr0 hc0
 have HB := Aside0.mk (Below.refl w.heap.size w)
 have H : (spec_loOf.l0 k l0 (l0.length : Int) l0 (l0.length : Int) 0 (l0.length : Int) ([] : List (List Int))) = some (r1, r2, r3) := h
 clear h
 have H' := Aside0.mk H
 clear H
 go_enter Try.func42, Try.ntmps42
 go_wp2_with (first | ((with_reducible refine gate_dst (N := 2) rfl ?_); refine box_event ?hg (N := 2) ?hd (cs := #[.int .i64 0, .slice none 0 0, .slice none 0 0]) (t := 50) ?hr ?_; (case hd => rfl); (case hg => rfl); (case hr => first | (go_simp; done) | (go_simp; rfl)); intro gb175 hg w2 hbox hb; have n0_ := Aside0.mk (below_step (by repeat (first | (with_reducible first | exact HB.out | apply below_alloc | apply pw_below_drewN | apply below_drew1) | exact HB.out)) hb); have n1_ := Aside0.mk (hbox); have n2_ := Aside0.mk ((by rw [hg]; exact (below_size (by repeat (first | (with_reducible first | exact HB.out | apply below_alloc | apply pw_below_drewN | apply below_drew1) | exact HB.out))) : w.heap.size ≤ gb175)); have n3_ := Aside0.mk ((by rw [hg]; exact (below_size (by repeat (first | (with_reducible first | exact HB.out | apply below_alloc | apply pw_below_drewN | apply below_drew1) | exact HB.out))) : w.heap.size ≤ gb175)); clear HB; have HB := n0_; have BK175 := n1_; have GW175 := n2_; have GE175 := n3_; clear n0_ n1_ n2_ n3_; clear hb hbox hg) | ((with_reducible refine gate_dst (N := 4) rfl ?_); refine box_event ?hg (N := 4) ?hd (cs := #[.int .i64 0, .slice none 0 0, .slice none 0 0]) (t := 50) ?hr ?_; (case hd => rfl); (case hg => rfl); (case hr => first | (go_simp; done) | (go_simp; rfl)); intro gb176 hg w3 hbox hb; have n0_ := Aside0.mk (blk_below (g := gb175) (o := .cells #[.int .i64 0, .slice none 0 0, .slice none 0 0] 50 (0, 0)) (by (with_reducible repeat (first | refine blk_drewN ?_ _ | refine blk_drew ?_ | refine blk_alloc ?_ _)); exact BK175.out) hb); have n1_ := Aside0.mk (below_step (by repeat (first | (with_reducible first | exact HB.out | apply below_alloc | apply pw_below_drewN | apply below_drew1 | refine below_set ?_ GE175.out) | exact HB.out)) hb); have n2_ := Aside0.mk (hbox); have n3_ := Aside0.mk ((by rw [hg]; exact (below_size (by repeat (first | (with_reducible first | exact HB.out | apply below_alloc | apply pw_below_drewN | apply below_drew1 | refine below_set ?_ GE175.out) | exact HB.out))) : w.heap.size ≤ gb176)); have n4_ := Aside0.mk ((by rw [hg]; exact (below_size (by repeat (first | (with_reducible first | exact HB.out | apply below_alloc | apply pw_below_drewN | apply below_drew1 | refine below_set ?_ GE175.out) | exact HB.out))) : w.heap.size ≤ gb176)); have n5_ := Aside0.mk ((by rw [hg]; exact Nat.ne_of_lt (blk_lt (g := gb175) (o := .cells #[.int .i64 0, .slice none 0 0, .slice none 0 0] 50 (0, 0)) (by (with_reducible repeat (first | refine blk_drewN ?_ _ | refine blk_drew ?_ | refine blk_alloc ?_ _)); exact BK175.out)) : gb175 ≠ gb176)); have n6_ := Aside0.mk ((by rw [hg]; exact Nat.ne_of_gt (blk_lt (g := gb175) (o := .cells #[.int .i64 0, .slice none 0 0, .slice none 0 0] 50 (0, 0)) (by (with_reducible repeat (first | refine blk_drewN ?_ _ | refine blk_drew ?_ | refine blk_alloc ?_ _)); exact BK175.out)) : gb176 ≠ gb175)); clear BK175; clear HB; have BK175 := n0_; have HB := n1_; have BK176 := n2_; have GW176 := n3_; have GE176 := n4_; have NB175_176 := n5_; have NB176_175 := n6_; clear n0_ n1_ n2_ n3_ n4_ n5_ n6_; clear hb hbox hg; have hnb4 := NB176_175.out; have hnc4 := NB175_176.out; have hcz5_0 : w3.cell? ⟨gb176, 0, none⟩ = some (.int .i64 0) := (blk_cell BK176.out 0).trans rfl; have hcz5_1 : w3.cell? ⟨gb176, 1, none⟩ = some (.slice none 0 0) := (blk_cell BK176.out 1).trans rfl; have hcz5_2 : w3.cell? ⟨gb176, 2, none⟩ = some (.slice none 0 0) := (blk_cell BK176.out 2).trans rfl; have hfz5_0 := blk_frozen BK176.out 0; have hfz5_1 := blk_frozen BK176.out 1; have hfz5_2 := blk_frozen BK176.out 2))
 go_loopg [23] k (fun kq v23 w' => ∃ (x23_1 : Int) (x177001_1 : List (List Int)) (u177001 : Value), v23 = .int .i64 x23_1 ∧ Aside0 (spec_loOf.l0 kq l0 (l0.length : Int) l0 (l0.length : Int) x23_1 (l0.length : Int) x177001_1 = some (r1, r2, r3)) ∧ Aside0 (kq ≤ k) ∧ Aside0 (Kd.S (Kd.slice 3 (Kd.int .i64)) 28 w' w.heap.size (fun _ => True) u177001 x177001_1) ∧ Aside0 (w'.heap[gb175]? = some (.cells #[.int .i64 0, (.slice none 0 0), (.slice none 0 0)] 50 (0, 0))) ∧ Aside0 (w'.heap[gb176]? = some (.cells #[.int .i64 (l0.length : Int), u177001, (.slice none 0 0)] 50 (0, 0))) ∧ Aside0 (Below w.heap.size w w'))
 case atStart => exact ⟨(0), (([] : List (List Int))), (.slice none 0 0), (by first | rfl | (simp; done) | (simp [*]; done)), H', ⟨Nat.le_refl _⟩, ⟨by first | exact Kd.S_nil _ _ _ _ _ | exact Kd.N_nil _ _ _ _ _ | exact Kd.V_nil _ _ _ _ _ | exact Kd.Q_nil _ _ _ _ _ | exact Kd.R_nil _ _ _ _ _⟩, ⟨by (with_reducible repeat (first | refine blk_drewN ?_ _ | refine blk_drew ?_ | refine blk_alloc ?_ _)); refine blk_far ?_ NB175_176.out _; (with_reducible repeat (first | refine blk_drewN ?_ _ | refine blk_drew ?_ | refine blk_alloc ?_ _)); refine blk_far ?_ NB175_176.out _; (with_reducible repeat (first | refine blk_drewN ?_ _ | refine blk_drew ?_ | refine blk_alloc ?_ _)); refine blk_far ?_ NB175_176.out _; (with_reducible repeat (first | refine blk_drewN ?_ _ | refine blk_drew ?_ | refine blk_alloc ?_ _)); exact BK175.out⟩, ⟨by (with_reducible repeat (first | refine blk_drewN ?_ _ | refine blk_drew ?_ | refine blk_alloc ?_ _)); refine blk_put (cs := #[.int .i64 (l0.length : Int), .slice none 0 0, .slice none 0 0]) ?_ 2 _ rfl; (with_reducible repeat (first | refine blk_drewN ?_ _ | refine blk_drew ?_ | refine blk_alloc ?_ _)); refine blk_put (cs := #[.int .i64 (l0.length : Int), .slice none 0 0, .slice none 0 0]) ?_ 1 _ rfl; (with_reducible repeat (first | refine blk_drewN ?_ _ | refine blk_drew ?_ | refine blk_alloc ?_ _)); refine blk_put (cs := #[.int .i64 0, .slice none 0 0, .slice none 0 0]) ?_ 0 _ rfl; (with_reducible repeat (first | refine blk_drewN ?_ _ | refine blk_drew ?_ | refine blk_alloc ?_ _)); exact BK176.out⟩, ⟨by repeat (first | (with_reducible first | exact HB.out | apply below_alloc | apply pw_below_drewN | apply below_drew1 | refine below_set ?_ GE175.out | refine below_set ?_ GE176.out) | exact HB.out)⟩⟩
 case round =>
  clear H'
  try clear p2
  try clear c4
  try clear hcz5_0
  try clear hcz5_1
  try clear hcz5_2
  try clear hfz5_0
  try clear hfz5_1
  try clear hfz5_2
  obtain ⟨x23_1, x177001_1, u177001, rfl, HA, HK1, HO_177001, BK175, BK176, HB⟩ := hrel
  cases gk with
  | zero => exact absurd HA.out (by simp [spec_loOf.l0])
  | succ k1 =>
   have H := HA.out
   clear HA
   simp only [spec_loOf.l0] at H
   by_cases c6 : x23_1 < (l0.length : Int)
   ·rw [if_pos c6] at H
    have c6b0 : decide (x23_1 < (l0.length : Int)) = true := decide_eq_true c6
    clear c6
    by_cases c7 : 0 ≤ x23_1
    ·rw [if_pos c7] at H
     have c7b0 : decide (0 ≤ x23_1) = true := decide_eq_true c7
     clear c7
     by_cases c8 : x23_1 < (l0.length : Int)
     ·rw [if_pos c8] at H
      have c8b0 : decide (x23_1 < (l0.length : Int)) = true := decide_eq_true c8
      clear c8
      have H' := Aside0.mk H
      clear H
      have p177 : 0 ≤ (x23_1 : Int) := of_decide_eq_true (by first | (with_reducible assumption) | assumption)
      have q177 : x23_1 < (l0.length : Int) := of_decide_eq_true (by first | (with_reducible assumption) | assumption)
      obtain ⟨ad177, A177_0, c177_0, e177, hx177_0, hl177_0, hi177_0⟩ := at_L1 HR0.out x23_1 p177 q177
      cases e177
      (try replace hx177_0 := (HB.out.cell (World.block_lt_of_cell? w _ hx177_0)).trans hx177_0)
      have HR177_0 := Aside0.mk hi177_0
      have HC177_0 := Aside0.mk hl177_0
      clear hi177_0 hl177_0
      replace p177 := eq_true p177
      replace q177 := eq_true q177
      go_wp2
      go_loopg [7, 8, 9] k1 (fun kq v7 v8 v9 w' => ∃ (x7_2 : List Int) (x8_2 : Int) (x9_2 : Int), v8 = .int .i64 x8_2 ∧ v9 = .int .i64 x9_2 ∧ Aside0 (spec_loOf.l1 kq l0 (l0.length : Int) x23_1 (rd_L1 l0 x23_1) x7_2 x8_2 x9_2 l0 (l0.length : Int) x23_1 (l0.length : Int) x177001_1 = some (r1, r2, r3)) ∧ Aside0 (kq ≤ k1) ∧ Aside0 (Kd.R (Kd.int .i64) 3 w' w.heap.size (fun _ => True) v7 x7_2) ∧ Aside0 (Kd.S (Kd.slice 3 (Kd.int .i64)) 28 w' w.heap.size (fun k_ => some k_ ≠ (v7 : Value).ownBlock) u177001 x177001_1) ∧ Aside0 (w'.heap[gb175]? = some (.cells #[.int .i64 0, (.slice none 0 0), (.slice none 0 0)] 50 (0, 0))) ∧ Aside0 (w'.heap[gb176]? = some (.cells #[.int .i64 (l0.length : Int), u177001, (.slice none 0 0)] 50 (0, 0))) ∧ Aside0 (Below w.heap.size w w'))
      case atStart => exact ⟨(([] : List Int)), (0), (0), (by first | rfl | (simp; done) | (simp [*]; done)), (by first | rfl | (simp; done) | (simp [*]; done)), H', ⟨Nat.le_refl _⟩, ⟨by first | exact Kd.R_nil _ _ _ _ _ | exact Kd.N_nil _ _ _ _ _ | exact Kd.V_nil _ _ _ _ _ | exact Kd.Q_nil _ _ _ _ _ | exact Kd.S_nil _ _ _ _ _⟩, ⟨by (with_reducible repeat (first | apply Kd.S_alloc | apply Kd.S_drewN | apply Kd.S_drew)); exact Kd.S_mono HO_177001.out (fun _ hk => (by simp [Value.ownBlock]))⟩, ⟨by (with_reducible repeat (first | refine blk_drewN ?_ _ | refine blk_drew ?_ | refine blk_alloc ?_ _)); exact BK175.out⟩, ⟨by (with_reducible repeat (first | refine blk_drewN ?_ _ | refine blk_drew ?_ | refine blk_alloc ?_ _)); exact BK176.out⟩, ⟨by repeat (first | (with_reducible first | exact HB.out | apply below_alloc | apply pw_below_drewN | apply below_drew1 | refine below_set ?_ GE175.out | refine below_set ?_ GE176.out) | exact HB.out)⟩⟩
      case round =>
       clear H'
       try clear c1
       try clear p1
       try clear q1
       try clear hx1
       try clear p2
       try clear c4
       try clear c6
       try clear c6b0
       try clear c7
       try clear c7b0
       try clear c8
       try clear c8b0
       try clear hcz5_0
       try clear hcz5_1
       try clear hcz5_2
       try clear hfz5_0
       try clear hfz5_1
       try clear hfz5_2
       try clear hx177_0
       try clear p177
       try clear p2
       try clear q177
       obtain ⟨x7_2, x8_2, x9_2, rfl, rfl, HA, HK2, HO_7, HO_177001, BK175, BK176, HB⟩ := hrel
       cases gk with
       | zero => exact absurd HA.out (by simp [spec_loOf.l1])
       | succ k2 =>
        have H := HA.out
        clear HA
        simp only [spec_loOf.l1] at H
        by_cases c9 : x9_2 ≤ (l0.length : Int)
        ·rw [if_pos c9] at H
         have c9b0 : decide (x9_2 ≤ (l0.length : Int)) = true := decide_eq_true c9
         clear c9
         by_cases c10 : x7_2.length < 17592186044416
         ·rw [if_pos c10] at H
          have LMc10 := Aside0.mk c10
          clear c10
          obtain ⟨y178, hy178⟩ : ∃ y_ : List Int, y_ = (x7_2 ++ [wrap64 (1 - (Int.tmod (wrap64 ((wrap64 (x8_2 + x23_1)) + x9_2)) 2))]) := ⟨_, rfl⟩
          replace H : (if x9_2 < (l0.length : Int) then (if 0 ≤ x9_2 then (if x9_2 < ((rd_L1 l0 x23_1).length : Int) then (spec_loOf.l1 k2 l0 (l0.length : Int) x23_1 (rd_L1 l0 x23_1) y178 (wrap64 (x8_2 + (rd (rd_L1 l0 x23_1) x9_2))) (wrap64 (x9_2 + 1)) l0 (l0.length : Int) x23_1 (l0.length : Int) x177001_1) else (none)) else (none)) else (spec_loOf.l1 k2 l0 (l0.length : Int) x23_1 (rd_L1 l0 x23_1) y178 x8_2 (wrap64 (x9_2 + 1)) l0 (l0.length : Int) x23_1 (l0.length : Int) x177001_1)) = some (r1, r2, r3) := by first | (rw [hy178]; with_reducible exact H) | (have H2_ := (Option.bind_some _ _).symm.trans H; rw [hy178]; with_reducible exact H2_) | (have H2_ := (Option.bind_some _ _).symm.trans H; with_reducible exact H2_) | with_reducible exact H | (rw [hy178]; exact H) | exact H
          have Ny178 := Aside0.mk hy178
          clear hy178
          by_cases c11 : x9_2 < (l0.length : Int)
          ·rw [if_pos c11] at H
           have c11b0 : decide (x9_2 < (l0.length : Int)) = true := decide_eq_true c11
           clear c11
           by_cases c12 : 0 ≤ x9_2
           ·rw [if_pos c12] at H
            have c12b0 : decide (0 ≤ x9_2) = true := decide_eq_true c12
            clear c12
            by_cases c13 : x9_2 < ((rd_L1 l0 x23_1).length : Int)
            ·rw [if_pos c13] at H
             have c13b0 : decide (x9_2 < ((rd_L1 l0 x23_1).length : Int)) = true := decide_eq_true c13
             clear c13
             have H' := Aside0.mk H
             clear H
             go_wp2_with (first | ((with_reducible refine gate_builtin (b := .append) (xs := #[.tmp 33, .tmp 41]) rfl ?_); at_builtin; refine Kd.R_append (Kd.int .i64) (w0 := w) w.heap.size rfl (.tmp 33) (.tmp 41) 28 3 (.int .i64 0) 8 rfl Try.underlying28 info3 rfl (by decide) (by omega) u7 x7_2 (wrap64 (1 - (Int.tmod (wrap64 ((wrap64 (x8_2 + x23_1)) + x9_2)) 2))) [.int .i64 (wrap64 (1 - (Int.tmod (wrap64 ((wrap64 (x8_2 + x23_1)) + x9_2)) 2)))] (fun _ => True) (fun _ => False) rfl rfl ?aP (fun _ hk => hk.elim) ?aF ?aO ?aB ?aS ?aL ?_; (case aP => exact rfl); (case aB => exact (by repeat (first | (with_reducible first | exact HB.out | apply below_alloc | apply pw_below_drewN | apply below_drew1 | refine below_set ?_ GE175.out | refine below_set ?_ GE176.out) | exact HB.out))); (case aF => exact (fun _ _ => trivial)); (case aO => exact (by (with_reducible repeat (first | apply Kd.R_alloc | apply Kd.R_drewN | apply Kd.R_drew)); exact HO_7.out)); (case aS => exact (below_size (by repeat (first | (with_reducible first | exact HB.out | apply below_alloc | apply pw_below_drewN | apply below_drew1 | refine below_set ?_ GE175.out | refine below_set ?_ GE176.out) | exact HB.out)))); (case aL => have := LMc10.out; omega); intro v179 w14 ho hb hg hat; rw [← Ny178.out] at ho; have n0_ := Aside0.mk (Kd.S_after (ok := (fun _ => True)) (by (with_reducible repeat (first | apply Kd.S_alloc | apply Kd.S_drewN | apply Kd.S_drew)); exact Kd.S_mono HO_177001.out (fun _ hk => ⟨trivial, hk⟩)) hg hat); have n1_ := Aside0.mk (blk_grown (g := gb175) (o := .cells #[.int .i64 0, .slice none 0 0, .slice none 0 0] 50 (0, 0)) (by (with_reducible repeat (first | refine blk_drewN ?_ _ | refine blk_drew ?_ | refine blk_alloc ?_ _)); exact BK175.out) hg (Kd.R_ne HO_7.out BK175.out (by decide))); have n2_ := Aside0.mk (blk_grown (g := gb176) (o := .cells #[.int .i64 (l0.length : Int), u177001, .slice none 0 0] 50 (0, 0)) (by (with_reducible repeat (first | refine blk_drewN ?_ _ | refine blk_drew ?_ | refine blk_alloc ?_ _)); exact BK176.out) hg (Kd.R_ne HO_7.out BK176.out (by decide))); have n3_ := Aside0.mk (hb); have n4_ := Aside0.mk (ho); clear HO_177001; clear BK175; clear BK176; clear HB; clear HO_7; have HO_177001 := n0_; have BK175 := n1_; have BK176 := n2_; have HB := n3_; have HO180 := n4_; clear n0_ n1_ n2_ n3_ n4_; clear ho hb hg hat; have p181 : 0 ≤ (x9_2 : Int) := of_decide_eq_true (by first | (with_reducible assumption) | assumption); have q181 : x9_2 < ((rd_L1 l0 x23_1).length : Int) := of_decide_eq_true (by first | (with_reducible assumption) | assumption); obtain ⟨ad181, e181, hx181_0⟩ := Kd.at_int HR177_0.out x9_2 p181 q181; cases e181; (try replace hx181_0 := (HB.out.cell (World.block_lt_of_cell? w _ hx181_0)).trans hx181_0); replace p181 := eq_true p181; replace q181 := eq_true q181))
             go_roundg k2
             case measure => have := HK1.out; have := HK2.out; omega
             case rel => exact ⟨(y178), (wrap64 (x8_2 + (rd (rd_L1 l0 x23_1) x9_2))), (wrap64 (x9_2 + 1)), (by first | rfl | (simp; done) | (simp [*]; done)), (by first | rfl | (simp; done) | (simp [*]; done)), H', ⟨by have := HK1.out; have := HK2.out; omega⟩, ⟨by (with_reducible repeat (first | apply Kd.R_alloc | apply Kd.R_drewN | apply Kd.R_drew)); exact HO180.out⟩, ⟨by (with_reducible repeat (first | apply Kd.S_alloc | apply Kd.S_drewN | apply Kd.S_drew)); exact Kd.S_mono HO_177001.out (fun _ hk => hk.2)⟩, ⟨by (with_reducible repeat (first | refine blk_drewN ?_ _ | refine blk_drew ?_ | refine blk_alloc ?_ _)); exact BK175.out⟩, ⟨by (with_reducible repeat (first | refine blk_drewN ?_ _ | refine blk_drew ?_ | refine blk_alloc ?_ _)); exact BK176.out⟩, ⟨by repeat (first | (with_reducible first | exact HB.out | apply below_alloc | apply pw_below_drewN | apply below_drew1 | refine below_set ?_ GE175.out | refine below_set ?_ GE176.out) | exact HB.out)⟩⟩
            ·rw [if_neg c13] at H
             exact absurd H (by simp)
           ·rw [if_neg c12] at H
            exact absurd H (by simp)
          ·rw [if_neg c11] at H
           have c11b0 : decide (x9_2 < (l0.length : Int)) = false := decide_eq_false c11
           clear c11
           have H' := Aside0.mk H
           clear H
           go_wp2_with (first | ((with_reducible refine gate_builtin (b := .append) (xs := #[.tmp 33, .tmp 41]) rfl ?_); at_builtin; refine Kd.R_append (Kd.int .i64) (w0 := w) w.heap.size rfl (.tmp 33) (.tmp 41) 28 3 (.int .i64 0) 8 rfl Try.underlying28 info3 rfl (by decide) (by omega) u7 x7_2 (wrap64 (1 - (Int.tmod (wrap64 ((wrap64 (x8_2 + x23_1)) + x9_2)) 2))) [.int .i64 (wrap64 (1 - (Int.tmod (wrap64 ((wrap64 (x8_2 + x23_1)) + x9_2)) 2)))] (fun _ => True) (fun _ => False) rfl rfl ?aP (fun _ hk => hk.elim) ?aF ?aO ?aB ?aS ?aL ?_; (case aP => exact rfl); (case aB => exact (by repeat (first | (with_reducible first | exact HB.out | apply below_alloc | apply pw_below_drewN | apply below_drew1 | refine below_set ?_ GE175.out | refine below_set ?_ GE176.out) | exact HB.out))); (case aF => exact (fun _ _ => trivial)); (case aO => exact (by (with_reducible repeat (first | apply Kd.R_alloc | apply Kd.R_drewN | apply Kd.R_drew)); exact HO_7.out)); (case aS => exact (below_size (by repeat (first | (with_reducible first | exact HB.out | apply below_alloc | apply pw_below_drewN | apply below_drew1 | refine below_set ?_ GE175.out | refine below_set ?_ GE176.out) | exact HB.out)))); (case aL => have := LMc10.out; omega); intro v179 w15 ho hb hg hat; rw [← Ny178.out] at ho; have n0_ := Aside0.mk (Kd.S_after (ok := (fun _ => True)) (by (with_reducible repeat (first | apply Kd.S_alloc | apply Kd.S_drewN | apply Kd.S_drew)); exact Kd.S_mono HO_177001.out (fun _ hk => ⟨trivial, hk⟩)) hg hat); have n1_ := Aside0.mk (blk_grown (g := gb175) (o := .cells #[.int .i64 0, .slice none 0 0, .slice none 0 0] 50 (0, 0)) (by (with_reducible repeat (first | refine blk_drewN ?_ _ | refine blk_drew ?_ | refine blk_alloc ?_ _)); exact BK175.out) hg (Kd.R_ne HO_7.out BK175.out (by decide))); have n2_ := Aside0.mk (blk_grown (g := gb176) (o := .cells #[.int .i64 (l0.length : Int), u177001, .slice none 0 0] 50 (0, 0)) (by (with_reducible repeat (first | refine blk_drewN ?_ _ | refine blk_drew ?_ | refine blk_alloc ?_ _)); exact BK176.out) hg (Kd.R_ne HO_7.out BK176.out (by decide))); have n3_ := Aside0.mk (hb); have n4_ := Aside0.mk (ho); clear HO_177001; clear BK175; clear BK176; clear HB; clear HO_7; have HO_177001 := n0_; have BK175 := n1_; have BK176 := n2_; have HB := n3_; have HO180 := n4_; clear n0_ n1_ n2_ n3_ n4_; clear ho hb hg hat))
           go_roundg k2
           case measure => have := HK1.out; have := HK2.out; omega
           case rel => exact ⟨(y178), (x8_2), (wrap64 (x9_2 + 1)), (by first | rfl | (simp; done) | (simp [*]; done)), (by first | rfl | (simp; done) | (simp [*]; done)), H', ⟨by have := HK1.out; have := HK2.out; omega⟩, ⟨by (with_reducible repeat (first | apply Kd.R_alloc | apply Kd.R_drewN | apply Kd.R_drew)); exact HO180.out⟩, ⟨by (with_reducible repeat (first | apply Kd.S_alloc | apply Kd.S_drewN | apply Kd.S_drew)); exact Kd.S_mono HO_177001.out (fun _ hk => hk.2)⟩, ⟨by (with_reducible repeat (first | refine blk_drewN ?_ _ | refine blk_drew ?_ | refine blk_alloc ?_ _)); exact BK175.out⟩, ⟨by (with_reducible repeat (first | refine blk_drewN ?_ _ | refine blk_drew ?_ | refine blk_alloc ?_ _)); exact BK176.out⟩, ⟨by repeat (first | (with_reducible first | exact HB.out | apply below_alloc | apply pw_below_drewN | apply below_drew1 | refine below_set ?_ GE175.out | refine below_set ?_ GE176.out) | exact HB.out)⟩⟩
         ·rw [if_neg c10] at H
          exact absurd H (by simp)
        ·rw [if_neg c9] at H
         have c9b0 : decide (x9_2 ≤ (l0.length : Int)) = false := decide_eq_false c9
         clear c9
         by_cases c16 : x177001_1.length < 5864062014805
         ·rw [if_pos c16] at H
          have LMc16 := Aside0.mk c16
          clear c16
          obtain ⟨y182, hy182⟩ : ∃ y_ : List (List Int), y_ = (x177001_1 ++ [x7_2]) := ⟨_, rfl⟩
          replace H : (spec_loOf.l0 k2 l0 (l0.length : Int) l0 (l0.length : Int) (wrap64 (x23_1 + 1)) (l0.length : Int) y182) = some (r1, r2, r3) := by first | (rw [hy182]; with_reducible exact H) | (have H2_ := (Option.bind_some _ _).symm.trans H; rw [hy182]; with_reducible exact H2_) | (have H2_ := (Option.bind_some _ _).symm.trans H; with_reducible exact H2_) | with_reducible exact H | (rw [hy182]; exact H) | exact H
          have Ny182 := Aside0.mk hy182
          clear hy182
          have H' := Aside0.mk H
          clear H
          have hnb17 := NB176_175.out
          have hnc17 := NB175_176.out
          have hcz18_0 : wr.cell? ⟨gb176, 0, none⟩ = some (.int .i64 (l0.length : Int)) := (blk_cell BK176.out 0).trans rfl
          have hcz18_1 : wr.cell? ⟨gb176, 1, none⟩ = some (u177001) := (blk_cell BK176.out 1).trans rfl
          have hcz18_2 : wr.cell? ⟨gb176, 2, none⟩ = some (.slice none 0 0) := (blk_cell BK176.out 2).trans rfl
          have hfz18_0 := blk_frozen BK176.out 0
          have hfz18_1 := blk_frozen BK176.out 1
          have hfz18_2 := blk_frozen BK176.out 2
          obtain ⟨Ao20, co20, eo20⟩ := Kd.R_slice HO_7.out
          subst eo20
          go_wp2_with (first | ((with_reducible refine gate_builtin (b := .append) (xs := #[.tmp 53, .tmp 55]) rfl ?_); at_builtin; refine Kd.S_append (Kd.slice 3 (Kd.int .i64)) (w0 := w) w.heap.size rfl (.tmp 53) (.tmp 55) 22 28 (.slice none 0 0) 24 rfl Try.underlying22 info28 rfl (by decide) (by omega) u177001 x177001_1 x7_2 [.slice Ao20 x7_2.length co20] (fun _ => True) (fun k_ => some k_ = (.slice Ao20 x7_2.length co20 : Value).ownBlock) rfl rfl ?aP (fun k_ hk_ => ((Kd.R_mono (ok' := fun k_ => ((fun _ => True)) k_ ∧ some k_ ≠ (u177001 : Value).ownBlock) (Kd.R_apart' (HO_7.out) (Kd.S_typed HO_177001.out) (by decide)) (fun k_ hk => ⟨trivial, hk.2⟩))).1 k_ hk_.symm) ?aF ?aO ?aB ?aS ?aL ?_; (case aP => exact Kd.M_row (Kd.R_mono (Kd.R_tight rfl (Kd.R_mono (ok' := fun k_ => ((fun _ => True)) k_ ∧ some k_ ≠ (u177001 : Value).ownBlock) (Kd.R_apart' (HO_7.out) (Kd.S_typed HO_177001.out) (by decide)) (fun k_ hk => ⟨trivial, hk.2⟩))) (fun _ h_ => h_))); (case aB => exact (by repeat (first | (with_reducible first | exact HB.out | apply below_alloc | apply pw_below_drewN | apply below_drew1 | refine below_set ?_ GE175.out | refine below_set ?_ GE176.out) | exact HB.out))); (case aF => exact (fun _ _ => trivial)); (case aO => exact (by (with_reducible repeat (first | apply Kd.S_alloc | apply Kd.S_drewN | apply Kd.S_drew)); exact Kd.S_mono HO_177001.out (fun k_ hk => ⟨trivial, fun e_ => hk e_⟩))); (case aS => exact (below_size (by repeat (first | (with_reducible first | exact HB.out | apply below_alloc | apply pw_below_drewN | apply below_drew1 | refine below_set ?_ GE175.out | refine below_set ?_ GE176.out) | exact HB.out)))); (case aL => have := LMc16.out; omega); intro v183 w19 ho hb hg hat; rw [← Ny182.out] at ho; have n0_ := Aside0.mk (blk_grown (g := gb175) (o := .cells #[.int .i64 0, .slice none 0 0, .slice none 0 0] 50 (0, 0)) (by (with_reducible repeat (first | refine blk_drewN ?_ _ | refine blk_drew ?_ | refine blk_alloc ?_ _)); exact BK175.out) hg (Kd.S_ne HO_177001.out BK175.out (by decide))); have n1_ := Aside0.mk (blk_grown (g := gb176) (o := .cells #[.int .i64 (l0.length : Int), u177001, .slice none 0 0] 50 (0, 0)) (by (with_reducible repeat (first | refine blk_drewN ?_ _ | refine blk_drew ?_ | refine blk_alloc ?_ _)); exact BK176.out) hg (Kd.S_ne HO_177001.out BK176.out (by decide))); have n2_ := Aside0.mk (hb); have n3_ := Aside0.mk (ho); clear BK175; clear BK176; clear HB; clear HO_177001; clear HO_7; have BK175 := n0_; have BK176 := n1_; have HB := n2_; have HO184 := n3_; clear n0_ n1_ n2_ n3_; clear ho hb hg hat; obtain ⟨Ao21, co21, eo21⟩ := Kd.S_slice HO184.out; subst eo21; have hcz22_0 : w19.cell? ⟨gb176, 0, none⟩ = some (.int .i64 (l0.length : Int)) := (blk_cell BK176.out 0).trans rfl; have hcz22_1 : w19.cell? ⟨gb176, 1, none⟩ = some (u177001) := (blk_cell BK176.out 1).trans rfl; have hcz22_2 : w19.cell? ⟨gb176, 2, none⟩ = some (.slice none 0 0) := (blk_cell BK176.out 2).trans rfl; have hfz22_0 := blk_frozen BK176.out 0; have hfz22_1 := blk_frozen BK176.out 1; have hfz22_2 := blk_frozen BK176.out 2))
          go_roundg k2
          case measure => have := HK1.out; have := HK2.out; omega
          case rel => exact ⟨(wrap64 (x23_1 + 1)), (y182), (.slice Ao21 y182.length co21), (by first | rfl | (simp; done) | (simp [*]; done)), H', ⟨by have := HK1.out; have := HK2.out; omega⟩, ⟨by (with_reducible repeat (first | apply Kd.S_alloc | apply Kd.S_drewN | apply Kd.S_drew)); exact Kd.S_mono (Kd.S_far (p := ⟨gb176, 1, none⟩) (Kd.S_types HO184.out BK176.out (by decide)) (fun _ hk => hk.2) (.slice Ao21 y182.length co21)) (fun _ hk => trivial)⟩, ⟨by (with_reducible repeat (first | refine blk_drewN ?_ _ | refine blk_drew ?_ | refine blk_alloc ?_ _)); refine blk_far ?_ NB175_176.out _; (with_reducible repeat (first | refine blk_drewN ?_ _ | refine blk_drew ?_ | refine blk_alloc ?_ _)); exact BK175.out⟩, ⟨by (with_reducible repeat (first | refine blk_drewN ?_ _ | refine blk_drew ?_ | refine blk_alloc ?_ _)); refine blk_put (cs := #[.int .i64 (l0.length : Int), u177001, .slice none 0 0]) ?_ 1 _ rfl; (with_reducible repeat (first | refine blk_drewN ?_ _ | refine blk_drew ?_ | refine blk_alloc ?_ _)); exact BK176.out⟩, ⟨by repeat (first | (with_reducible first | exact HB.out | apply below_alloc | apply pw_below_drewN | apply below_drew1 | refine below_set ?_ GE175.out | refine below_set ?_ GE176.out) | exact HB.out)⟩⟩
         ·rw [if_neg c16] at H
          exact absurd H (by simp)
     ·rw [if_neg c8] at H
      exact absurd H (by simp)
    ·rw [if_neg c7] at H
     exact absurd H (by simp)
   ·rw [if_neg c6] at H
    have c6b0 : decide (x23_1 < (l0.length : Int)) = false := decide_eq_false c6
    clear c6
    by_cases c23 : 0 ≤ (l0.length : Int)
    ·rw [if_pos c23] at H
     have c23b0 := eq_true c23
     have c23b1 : decide (0 ≤ (l0.length : Int)) = true := decide_eq_true c23
     clear c23
     by_cases c24 : ((l0.length : Int) : Int).toNat ≤ 35184372088832
     ·rw [if_pos c24] at H
      have c24b0 := eq_true c24
      have c24b1 : decide (((l0.length : Int) : Int).toNat ≤ 35184372088832) = true := decide_eq_true c24
      clear c24
      obtain ⟨y185, hy185⟩ : ∃ y_ : List Int, y_ = (List.replicate ((l0.length : Int) : Int).toNat 0) := ⟨_, rfl⟩
      replace H : (spec_loOf.l2 k1 l0 (l0.length : Int) y185 0 (l0.length : Int) x177001_1 ([] : List (List Int))) = some (r1, r2, r3) := by first | (rw [hy185]; with_reducible exact H) | (have H2_ := (Option.bind_some _ _).symm.trans H; rw [hy185]; with_reducible exact H2_) | (have H2_ := (Option.bind_some _ _).symm.trans H; with_reducible exact H2_) | with_reducible exact H | (rw [hy185]; exact H) | exact H
      have Ny185 := Aside0.mk hy185
      clear hy185
      have H' := Aside0.mk H
      clear H
      go_wp2_with (first | ((with_reducible refine gate_dst (N := 60) rfl ?_); refine Kd.R_make (Kd.int .i64) _ 3 rfl (N := 60) rfl 28 _ _ rfl (l0.length : Int) rfl rfl Try.underlying28 (.int .i64 0) 8 info3 rfl (by decide) (by omega) 0 (ok := fun _ => True) (okp := fun _ => True) rfl (fun _ hk => hk) trivial (of_decide_eq_true (by first | (with_reducible assumption) | assumption)) (Nat.le_trans (Nat.mul_le_mul_right _ (of_decide_eq_true (by first | (with_reducible assumption) | assumption) : (l0.length : Int).toNat ≤ 35184372088832)) (by omega)) (Below.refl _ _) (Nat.le_refl _) ?_; intro v186 w25 ho26 hb hg_ hnew_; clear hg_ hnew_; (first | rw [← Ny185.out] at ho26 | (simp only [Int.reduceToNat] at ho26; rw [← Ny185.out] at ho26)); have n0_ := Aside0.mk (Kd.S_elder' (by (with_reducible repeat (first | apply Kd.S_alloc | apply Kd.S_drewN | apply Kd.S_drew)); exact HO_177001.out) (Kd.R_base ho26) hb); have n1_ := Aside0.mk (Kd.R_lower ho26 (below_size (by repeat (first | (with_reducible first | exact HB.out | apply below_alloc | apply pw_below_drewN | apply below_drew1 | refine below_set ?_ GE175.out | refine below_set ?_ GE176.out) | exact HB.out)))); have n2_ := Aside0.mk (blk_below (g := gb175) (o := .cells #[.int .i64 0, .slice none 0 0, .slice none 0 0] 50 (0, 0)) (by (with_reducible repeat (first | refine blk_drewN ?_ _ | refine blk_drew ?_ | refine blk_alloc ?_ _)); exact BK175.out) hb); have n3_ := Aside0.mk (blk_below (g := gb176) (o := .cells #[.int .i64 (l0.length : Int), u177001, .slice none 0 0] 50 (0, 0)) (by (with_reducible repeat (first | refine blk_drewN ?_ _ | refine blk_drew ?_ | refine blk_alloc ?_ _)); exact BK176.out) hb); have n4_ := Aside0.mk (below_step (by repeat (first | (with_reducible first | exact HB.out | apply below_alloc | apply pw_below_drewN | apply below_drew1 | refine below_set ?_ GE175.out | refine below_set ?_ GE176.out) | exact HB.out)) hb); clear HO_177001; clear BK175; clear BK176; clear HB; have HO_177001 := n0_; have HO187 := n1_; have BK175 := n2_; have BK176 := n3_; have HB := n4_; clear n0_ n1_ n2_ n3_ n4_; clear hb ho26))
      go_loopg [11] k1 (fun kq v11 w' => ∃ (x10_2 : List Int) (x11_2 : Int) (x177002_2 : List (List Int)) (u177002 : Value), v11 = .int .i64 x11_2 ∧ Aside0 (spec_loOf.l2 kq l0 (l0.length : Int) x10_2 x11_2 (l0.length : Int) x177001_1 x177002_2 = some (r1, r2, r3)) ∧ Aside0 (kq ≤ k1) ∧ Aside0 (Kd.R (Kd.int .i64) 3 w' w.heap.size (fun _ => True) v186 x10_2) ∧ Aside0 (Kd.S (Kd.slice 3 (Kd.int .i64)) 28 w' w.heap.size (fun k_ => some k_ ≠ (v186 : Value).ownBlock ∧ some k_ ≠ (u177002 : Value).ownBlock) u177001 x177001_1) ∧ Aside0 (Kd.S (Kd.slice 3 (Kd.int .i64)) 28 w' w.heap.size (fun k_ => some k_ ≠ (v186 : Value).ownBlock ∧ some k_ ≠ (u177001 : Value).ownBlock) u177002 x177002_2) ∧ Aside0 (w'.heap[gb175]? = some (.cells #[.int .i64 0, (.slice none 0 0), (.slice none 0 0)] 50 (0, 0))) ∧ Aside0 (w'.heap[gb176]? = some (.cells #[.int .i64 (l0.length : Int), u177001, u177002] 50 (0, 0))) ∧ Aside0 (Below w.heap.size w w'))
      case atStart => exact ⟨(y185), (0), (([] : List (List Int))), (.slice none 0 0), (by first | rfl | (simp; done) | (simp [*]; done)), H', ⟨Nat.le_refl _⟩, ⟨by (with_reducible repeat (first | apply Kd.R_alloc | apply Kd.R_drewN | apply Kd.R_drew)); exact HO187.out⟩, ⟨by (with_reducible repeat (first | apply Kd.S_alloc | apply Kd.S_drewN | apply Kd.S_drew)); exact Kd.S_mono HO_177001.out (fun _ hk => ⟨hk.2, (by simp [Value.ownBlock])⟩)⟩, ⟨by first | exact Kd.S_nil _ _ _ _ _ | exact Kd.N_nil _ _ _ _ _ | exact Kd.V_nil _ _ _ _ _ | exact Kd.Q_nil _ _ _ _ _ | exact Kd.R_nil _ _ _ _ _⟩, ⟨by (with_reducible repeat (first | refine blk_drewN ?_ _ | refine blk_drew ?_ | refine blk_alloc ?_ _)); exact BK175.out⟩, ⟨by (with_reducible repeat (first | refine blk_drewN ?_ _ | refine blk_drew ?_ | refine blk_alloc ?_ _)); exact BK176.out⟩, ⟨by repeat (first | (with_reducible first | exact HB.out | apply below_alloc | apply pw_below_drewN | apply below_drew1 | refine below_set ?_ GE175.out | refine below_set ?_ GE176.out) | exact HB.out)⟩⟩
      case round =>
       clear H'
       try clear c1
       try clear p1
       try clear q1
       try clear hx1
       try clear c2
       try clear p2
       try clear c4
       try clear c6
       try clear c6b0
       try clear p6
       try clear c7
       try clear c7b0
       try clear c8
       try clear c8b0
       try clear c9
       try clear c9b0
       try clear c10
       try clear c11
       try clear c11b0
       try clear c12
       try clear c12b0
       try clear c13
       try clear c13b0
       try clear c16
       try clear c17
       try clear p17
       try clear q17
       try clear hx17
       try clear p18
       try clear q18
       try clear hx18
       try clear c23
       try clear c23b0
       try clear c23b1
       try clear c24
       try clear c24b0
       try clear c24b1
       try clear hcz18_0
       try clear hcz18_1
       try clear hcz18_2
       try clear hcz22_0
       try clear hcz22_1
       try clear hcz22_2
       try clear hcz5_0
       try clear hcz5_1
       try clear hcz5_2
       try clear hfz18_0
       try clear hfz18_1
       try clear hfz18_2
       try clear hfz22_0
       try clear hfz22_1
       try clear hfz22_2
       try clear hfz5_0
       try clear hfz5_1
       try clear hfz5_2
       try clear hx177_0
       try clear hx181_0
       try clear p1
       try clear p177
       try clear p181
       try clear p2
       try clear q1
       try clear q177
       try clear q181
       obtain ⟨x10_2, x11_2, x177002_2, u177002, rfl, HA, HK2, HO_10, HO_177001, HO_177002, BK175, BK176, HB⟩ := hrel
       cases gk with
       | zero => exact absurd HA.out (by simp [spec_loOf.l2])
       | succ k2 =>
        have H := HA.out
        clear HA
        simp only [spec_loOf.l2] at H
        by_cases c27 : x11_2 ≤ (l0.length : Int)
        ·rw [if_pos c27] at H
         have c27b0 : decide (x11_2 ≤ (l0.length : Int)) = true := decide_eq_true c27
         clear c27
         have H' := Aside0.mk H
         clear H
         obtain ⟨Ao28, co28, eo28⟩ := Kd.R_slice HO_10.out
         subst eo28
         go_wp2
         go_loopg [12, 68] k2 (fun kq v12 v68 w' => ∃ (x12_3 : List Int) (x68_3 : Int), v68 = .int .i64 x68_3 ∧ Aside0 (spec_loOf.l3 kq l0 (l0.length : Int) x10_2 x11_2 x12_3 x10_2 (x10_2.length : Int) x68_3 (l0.length : Int) x177001_1 x177002_2 = some (r1, r2, r3)) ∧ Aside0 (kq ≤ k2) ∧ Aside0 (Kd.R (Kd.int .i64) 3 w' w.heap.size (fun k_ => some k_ ≠ (v12 : Value).ownBlock) (.slice Ao28 x10_2.length co28) x10_2) ∧ Aside0 (Kd.R (Kd.int .i64) 3 w' w.heap.size (fun k_ => some k_ ≠ ((.slice Ao28 x10_2.length co28) : Value).ownBlock ∧ some k_ ≠ ((.slice Ao28 x10_2.length co28) : Value).ownBlock) v12 x12_3) ∧ Aside0 (Kd.R (Kd.int .i64) 3 w' w.heap.size (fun k_ => some k_ ≠ (v12 : Value).ownBlock) (.slice Ao28 x10_2.length co28) x10_2) ∧ Aside0 (Kd.S (Kd.slice 3 (Kd.int .i64)) 28 w' w.heap.size (fun k_ => some k_ ≠ ((.slice Ao28 x10_2.length co28) : Value).ownBlock ∧ some k_ ≠ (v12 : Value).ownBlock ∧ some k_ ≠ ((.slice Ao28 x10_2.length co28) : Value).ownBlock ∧ some k_ ≠ (u177002 : Value).ownBlock) u177001 x177001_1) ∧ Aside0 (Kd.S (Kd.slice 3 (Kd.int .i64)) 28 w' w.heap.size (fun k_ => some k_ ≠ ((.slice Ao28 x10_2.length co28) : Value).ownBlock ∧ some k_ ≠ (v12 : Value).ownBlock ∧ some k_ ≠ ((.slice Ao28 x10_2.length co28) : Value).ownBlock ∧ some k_ ≠ (u177001 : Value).ownBlock) u177002 x177002_2) ∧ Aside0 (w'.heap[gb175]? = some (.cells #[.int .i64 0, (.slice none 0 0), (.slice none 0 0)] 50 (0, 0))) ∧ Aside0 (w'.heap[gb176]? = some (.cells #[.int .i64 (l0.length : Int), u177001, u177002] 50 (0, 0))) ∧ Aside0 (Below w.heap.size w w'))
         case atStart => exact ⟨(([] : List Int)), (0), (by first | rfl | (simp; done) | (simp [*]; done)), H', ⟨Nat.le_refl _⟩, ⟨by (with_reducible repeat (first | apply Kd.R_alloc | apply Kd.R_drewN | apply Kd.R_drew)); exact Kd.R_mono HO_10.out (fun _ hk => (by simp [Value.ownBlock]))⟩, ⟨by first | exact Kd.R_nil _ _ _ _ _ | exact Kd.N_nil _ _ _ _ _ | exact Kd.V_nil _ _ _ _ _ | exact Kd.Q_nil _ _ _ _ _ | exact Kd.S_nil _ _ _ _ _⟩, ⟨by (with_reducible repeat (first | apply Kd.R_alloc | apply Kd.R_drewN | apply Kd.R_drew)); exact Kd.R_mono HO_10.out (fun _ hk => (by simp [Value.ownBlock]))⟩, ⟨by (with_reducible repeat (first | apply Kd.S_alloc | apply Kd.S_drewN | apply Kd.S_drew)); exact Kd.S_mono HO_177001.out (fun _ hk => ⟨hk.1, ⟨(by simp [Value.ownBlock]), ⟨hk.1, hk.2⟩⟩⟩)⟩, ⟨by (with_reducible repeat (first | apply Kd.S_alloc | apply Kd.S_drewN | apply Kd.S_drew)); exact Kd.S_mono HO_177002.out (fun _ hk => ⟨hk.1, ⟨(by simp [Value.ownBlock]), ⟨hk.1, hk.2⟩⟩⟩)⟩, ⟨by (with_reducible repeat (first | refine blk_drewN ?_ _ | refine blk_drew ?_ | refine blk_alloc ?_ _)); exact BK175.out⟩, ⟨by (with_reducible repeat (first | refine blk_drewN ?_ _ | refine blk_drew ?_ | refine blk_alloc ?_ _)); exact BK176.out⟩, ⟨by repeat (first | (with_reducible first | exact HB.out | apply below_alloc | apply pw_below_drewN | apply below_drew1 | refine below_set ?_ GE175.out | refine below_set ?_ GE176.out) | exact HB.out)⟩⟩
         case round =>
          clear H'
          try clear c1
          try clear p1
          try clear q1
          try clear hx1
          try clear c2
          try clear p2
          try clear c4
          try clear c6
          try clear c6b0
          try clear p6
          try clear c7
          try clear c7b0
          try clear c8
          try clear c8b0
          try clear c9
          try clear c9b0
          try clear c10
          try clear c11
          try clear c11b0
          try clear c12
          try clear c12b0
          try clear c13
          try clear c13b0
          try clear c16
          try clear c17
          try clear p17
          try clear q17
          try clear hx17
          try clear p18
          try clear q18
          try clear hx18
          try clear c23
          try clear c23b0
          try clear c23b1
          try clear c24
          try clear c24b0
          try clear c24b1
          try clear c27
          try clear c27b0
          try clear hcz18_0
          try clear hcz18_1
          try clear hcz18_2
          try clear hcz22_0
          try clear hcz22_1
          try clear hcz22_2
          try clear hcz5_0
          try clear hcz5_1
          try clear hcz5_2
          try clear hfz18_0
          try clear hfz18_1
          try clear hfz18_2
          try clear hfz22_0
          try clear hfz22_1
          try clear hfz22_2
          try clear hfz5_0
          try clear hfz5_1
          try clear hfz5_2
          try clear hx177_0
          try clear hx181_0
          try clear p1
          try clear p17
          try clear p177
          try clear p18
          try clear p181
          try clear p2
          try clear p6
          try clear q1
          try clear q17
          try clear q177
          try clear q18
          try clear q181
          obtain ⟨x12_3, x68_3, rfl, HA, HK3, HO_10, HO_12, HO_66, HO_177001, HO_177002, BK175, BK176, HB⟩ := hrel
          cases gk with
          | zero => exact absurd HA.out (by simp [spec_loOf.l3])
          | succ k3 =>
           have H := HA.out
           clear HA
           simp only [spec_loOf.l3] at H
           by_cases c29 : x68_3 < (x10_2.length : Int)
           ·rw [if_pos c29] at H
            have c29b0 : decide (x68_3 < (x10_2.length : Int)) = true := decide_eq_true c29
            clear c29
            by_cases c30 : 0 ≤ x68_3
            ·rw [if_pos c30] at H
             have c30b0 : decide (0 ≤ x68_3) = true := decide_eq_true c30
             clear c30
             by_cases c31 : x68_3 < (x10_2.length : Int)
             ·rw [if_pos c31] at H
              have c31b0 : decide (x68_3 < (x10_2.length : Int)) = true := decide_eq_true c31
              clear c31
              by_cases c32 : x12_3.length < 17592186044416
              ·rw [if_pos c32] at H
               have LMc32 := Aside0.mk c32
               clear c32
               obtain ⟨y189, hy189⟩ : ∃ y_ : List Int, y_ = (x12_3 ++ [Int.tmod (wrap64 ((wrap64 ((rd x10_2 x68_3) + x11_2)) + x68_3)) 2]) := ⟨_, rfl⟩
               replace H : (spec_loOf.l3 k3 l0 (l0.length : Int) x10_2 x11_2 y189 x10_2 (x10_2.length : Int) (wrap64 (x68_3 + 1)) (l0.length : Int) x177001_1 x177002_2) = some (r1, r2, r3) := by first | (rw [hy189]; with_reducible exact H) | (have H2_ := (Option.bind_some _ _).symm.trans H; rw [hy189]; with_reducible exact H2_) | (have H2_ := (Option.bind_some _ _).symm.trans H; with_reducible exact H2_) | with_reducible exact H | (rw [hy189]; exact H) | exact H
               have Ny189 := Aside0.mk hy189
               clear hy189
               have H' := Aside0.mk H
               clear H
               have p188 : 0 ≤ (x68_3 : Int) := of_decide_eq_true (by first | (with_reducible assumption) | assumption)
               have q188 : x68_3 < (x10_2.length : Int) := of_decide_eq_true (by first | (with_reducible assumption) | assumption)
               obtain ⟨ad188, e188, hx188_0⟩ := Kd.at_int (Kd.R_reads' HO_66.out).2.2 x68_3 p188 q188
               cases e188
               replace p188 := eq_true p188
               replace q188 := eq_true q188
               go_wp2_with (first | ((with_reducible refine gate_builtin (b := .append) (xs := #[.tmp 73, .tmp 80]) rfl ?_); at_builtin; refine Kd.R_append (Kd.int .i64) (w0 := w) w.heap.size rfl (.tmp 73) (.tmp 80) 28 3 (.int .i64 0) 8 rfl Try.underlying28 info3 rfl (by decide) (by omega) u12 x12_3 (Int.tmod (wrap64 ((wrap64 ((rd x10_2 x68_3) + x11_2)) + x68_3)) 2) [.int .i64 (Int.tmod (wrap64 ((wrap64 ((rd x10_2 x68_3) + x11_2)) + x68_3)) 2)] (fun k_ => some k_ ≠ (.slice (some ad188) x10_2.length co28 : Value).ownBlock ∧ some k_ ≠ (.slice (some ad188) x10_2.length co28 : Value).ownBlock) (fun _ => False) rfl rfl ?aP (fun _ hk => hk.elim) ?aF ?aO ?aB ?aS ?aL ?_; (case aP => exact rfl); (case aB => exact (by repeat (first | (with_reducible first | exact HB.out | apply below_alloc | apply pw_below_drewN | apply below_drew1 | refine below_set ?_ GE175.out | refine below_set ?_ GE176.out) | exact HB.out))); (case aF => exact (fun k_ hk => ⟨Kd.fresh' (Kd.R_lt (by (with_reducible repeat (first | apply Kd.R_alloc | apply Kd.R_drewN | apply Kd.R_drew)); exact HO_10.out)) k_ hk, Kd.fresh' (Kd.R_lt (by (with_reducible repeat (first | apply Kd.R_alloc | apply Kd.R_drewN | apply Kd.R_drew)); exact HO_66.out)) k_ hk⟩)); (case aO => exact (by (with_reducible repeat (first | apply Kd.R_alloc | apply Kd.R_drewN | apply Kd.R_drew)); exact HO_12.out)); (case aS => exact (below_size (by repeat (first | (with_reducible first | exact HB.out | apply below_alloc | apply pw_below_drewN | apply below_drew1 | refine below_set ?_ GE175.out | refine below_set ?_ GE176.out) | exact HB.out)))); (case aL => have := LMc32.out; omega); intro v190 w33 ho hb hg hat; rw [← Ny189.out] at ho; have n0_ := Aside0.mk (Kd.R_after (ok := (fun _ => True)) (by (with_reducible repeat (first | apply Kd.R_alloc | apply Kd.R_drewN | apply Kd.R_drew)); exact Kd.R_mono HO_10.out (fun _ hk => ⟨trivial, hk⟩)) hg hat); have n1_ := Aside0.mk (Kd.R_after (ok := (fun _ => True)) (by (with_reducible repeat (first | apply Kd.R_alloc | apply Kd.R_drewN | apply Kd.R_drew)); exact Kd.R_mono HO_66.out (fun _ hk => ⟨trivial, hk⟩)) hg hat); have n2_ := Aside0.mk (Kd.S_after (ok := (fun k_ => some k_ ≠ (.slice (some ad188) x10_2.length co28 : Value).ownBlock ∧ some k_ ≠ (.slice (some ad188) x10_2.length co28 : Value).ownBlock ∧ some k_ ≠ (u177002 : Value).ownBlock)) (by (with_reducible repeat (first | apply Kd.S_alloc | apply Kd.S_drewN | apply Kd.S_drew)); exact Kd.S_mono HO_177001.out (fun _ hk => ⟨⟨hk.1, ⟨hk.2.2.1, hk.2.2.2⟩⟩, hk.2.1⟩)) hg hat); have n3_ := Aside0.mk (Kd.S_after (ok := (fun k_ => some k_ ≠ (.slice (some ad188) x10_2.length co28 : Value).ownBlock ∧ some k_ ≠ (.slice (some ad188) x10_2.length co28 : Value).ownBlock ∧ some k_ ≠ (u177001 : Value).ownBlock)) (by (with_reducible repeat (first | apply Kd.S_alloc | apply Kd.S_drewN | apply Kd.S_drew)); exact Kd.S_mono HO_177002.out (fun _ hk => ⟨⟨hk.1, ⟨hk.2.2.1, hk.2.2.2⟩⟩, hk.2.1⟩)) hg hat); have n4_ := Aside0.mk (blk_grown (g := gb175) (o := .cells #[.int .i64 0, .slice none 0 0, .slice none 0 0] 50 (0, 0)) (by (with_reducible repeat (first | refine blk_drewN ?_ _ | refine blk_drew ?_ | refine blk_alloc ?_ _)); exact BK175.out) hg (Kd.R_ne HO_12.out BK175.out (by decide))); have n5_ := Aside0.mk (blk_grown (g := gb176) (o := .cells #[.int .i64 (l0.length : Int), u177001, u177002] 50 (0, 0)) (by (with_reducible repeat (first | refine blk_drewN ?_ _ | refine blk_drew ?_ | refine blk_alloc ?_ _)); exact BK176.out) hg (Kd.R_ne HO_12.out BK176.out (by decide))); have n6_ := Aside0.mk (hb); have n7_ := Aside0.mk (ho); clear HO_10; clear HO_66; clear HO_177001; clear HO_177002; clear BK175; clear BK176; clear HB; clear HO_12; have HO_10 := n0_; have HO_66 := n1_; have HO_177001 := n2_; have HO_177002 := n3_; have BK175 := n4_; have BK176 := n5_; have HB := n6_; have HO191 := n7_; clear n0_ n1_ n2_ n3_ n4_ n5_ n6_ n7_; clear ho hb hg hat))
               go_roundg k3
               case measure => have := HK1.out; have := HK2.out; have := HK3.out; omega
               case rel => exact ⟨(y189), (wrap64 (x68_3 + 1)), (by first | rfl | (simp; done) | (simp [*]; done)), H', ⟨by have := HK1.out; have := HK2.out; have := HK3.out; omega⟩, ⟨by (with_reducible repeat (first | apply Kd.R_alloc | apply Kd.R_drewN | apply Kd.R_drew)); exact Kd.R_mono HO_10.out (fun _ hk => hk.2)⟩, ⟨by (with_reducible repeat (first | apply Kd.R_alloc | apply Kd.R_drewN | apply Kd.R_drew)); exact HO191.out⟩, ⟨by (with_reducible repeat (first | apply Kd.R_alloc | apply Kd.R_drewN | apply Kd.R_drew)); exact Kd.R_mono HO_66.out (fun _ hk => hk.2)⟩, ⟨by (with_reducible repeat (first | apply Kd.S_alloc | apply Kd.S_drewN | apply Kd.S_drew)); exact Kd.S_mono HO_177001.out (fun _ hk => ⟨hk.1.1, ⟨hk.2, ⟨hk.1.2.1, hk.1.2.2⟩⟩⟩)⟩, ⟨by (with_reducible repeat (first | apply Kd.S_alloc | apply Kd.S_drewN | apply Kd.S_drew)); exact Kd.S_mono HO_177002.out (fun _ hk => ⟨hk.1.1, ⟨hk.2, ⟨hk.1.2.1, hk.1.2.2⟩⟩⟩)⟩, ⟨by (with_reducible repeat (first | refine blk_drewN ?_ _ | refine blk_drew ?_ | refine blk_alloc ?_ _)); exact BK175.out⟩, ⟨by (with_reducible repeat (first | refine blk_drewN ?_ _ | refine blk_drew ?_ | refine blk_alloc ?_ _)); exact BK176.out⟩, ⟨by repeat (first | (with_reducible first | exact HB.out | apply below_alloc | apply pw_below_drewN | apply below_drew1 | refine below_set ?_ GE175.out | refine below_set ?_ GE176.out) | exact HB.out)⟩⟩
              ·rw [if_neg c32] at H
               exact absurd H (by simp)
             ·rw [if_neg c31] at H
              exact absurd H (by simp)
            ·rw [if_neg c30] at H
             exact absurd H (by simp)
           ·rw [if_neg c29] at H
            have c29b0 : decide (x68_3 < (x10_2.length : Int)) = false := decide_eq_false c29
            clear c29
            by_cases c34 : x177002_2.length < 5864062014805
            ·rw [if_pos c34] at H
             have LMc34 := Aside0.mk c34
             clear c34
             obtain ⟨y192, hy192⟩ : ∃ y_ : List (List Int), y_ = (x177002_2 ++ [x12_3]) := ⟨_, rfl⟩
             replace H : (if x11_2 < (l0.length : Int) then (if 0 ≤ x11_2 then (if x11_2 < (l0.length : Int) then (spec_loOf.l4 k3 l0 (l0.length : Int) x10_2 x11_2 (rd_L1 l0 x11_2) ((rd_L1 l0 x11_2).length : Int) 0 (l0.length : Int) x177001_1 y192) else (none)) else (none)) else (spec_loOf.l2 k3 l0 (l0.length : Int) x10_2 (wrap64 (x11_2 + 1)) (l0.length : Int) x177001_1 y192)) = some (r1, r2, r3) := by first | (rw [hy192]; with_reducible exact H) | (have H2_ := (Option.bind_some _ _).symm.trans H; rw [hy192]; with_reducible exact H2_) | (have H2_ := (Option.bind_some _ _).symm.trans H; with_reducible exact H2_) | with_reducible exact H | (rw [hy192]; exact H) | exact H
             have Ny192 := Aside0.mk hy192
             clear hy192
             by_cases c35 : x11_2 < (l0.length : Int)
             ·rw [if_pos c35] at H
              have c35b0 : decide (x11_2 < (l0.length : Int)) = true := decide_eq_true c35
              clear c35
              by_cases c36 : 0 ≤ x11_2
              ·rw [if_pos c36] at H
               have c36b0 : decide (0 ≤ x11_2) = true := decide_eq_true c36
               clear c36
               by_cases c37 : x11_2 < (l0.length : Int)
               ·rw [if_pos c37] at H
                have c37b0 : decide (x11_2 < (l0.length : Int)) = true := decide_eq_true c37
                clear c37
                have H' := Aside0.mk H
                clear H
                have hnb38 := NB176_175.out
                have hnc38 := NB175_176.out
                have hcz39_0 : wr.cell? ⟨gb176, 0, none⟩ = some (.int .i64 (l0.length : Int)) := (blk_cell BK176.out 0).trans rfl
                have hcz39_1 : wr.cell? ⟨gb176, 1, none⟩ = some (u177001) := (blk_cell BK176.out 1).trans rfl
                have hcz39_2 : wr.cell? ⟨gb176, 2, none⟩ = some (u177002) := (blk_cell BK176.out 2).trans rfl
                have hfz39_0 := blk_frozen BK176.out 0
                have hfz39_1 := blk_frozen BK176.out 1
                have hfz39_2 := blk_frozen BK176.out 2
                obtain ⟨Ao41, co41, eo41⟩ := Kd.R_slice HO_12.out
                subst eo41
                go_wp2_with (first | ((with_reducible refine gate_builtin (b := .append) (xs := #[.tmp 84, .tmp 86]) rfl ?_); at_builtin; refine Kd.S_append (Kd.slice 3 (Kd.int .i64)) (w0 := w) w.heap.size rfl (.tmp 84) (.tmp 86) 22 28 (.slice none 0 0) 24 rfl Try.underlying22 info28 rfl (by decide) (by omega) u177002 x177002_2 x12_3 [.slice Ao41 x12_3.length co41] (fun k_ => some k_ ≠ (.slice Ao28 x10_2.length co28 : Value).ownBlock ∧ some k_ ≠ (.slice Ao28 x10_2.length co28 : Value).ownBlock ∧ some k_ ≠ (u177001 : Value).ownBlock) (fun k_ => some k_ = (.slice Ao41 x12_3.length co41 : Value).ownBlock) rfl rfl ?aP (fun k_ hk_ => ((Kd.R_mono (ok' := fun k_ => ((fun k_ => some k_ ≠ (.slice Ao28 x10_2.length co28 : Value).ownBlock ∧ some k_ ≠ (.slice Ao28 x10_2.length co28 : Value).ownBlock ∧ some k_ ≠ (u177001 : Value).ownBlock)) k_ ∧ some k_ ≠ (u177002 : Value).ownBlock) (Kd.R_apart' (Kd.R_apart' (HO_12.out) (Kd.S_typed HO_177001.out) (by decide)) (Kd.S_typed HO_177002.out) (by decide)) (fun k_ hk => ⟨⟨hk.1.1.1, ⟨hk.1.1.2, hk.1.2⟩⟩, hk.2⟩))).1 k_ hk_.symm) ?aF ?aO ?aB ?aS ?aL ?_; (case aP => exact Kd.M_row (Kd.R_mono (Kd.R_tight rfl (Kd.R_mono (ok' := fun k_ => ((fun k_ => some k_ ≠ (.slice Ao28 x10_2.length co28 : Value).ownBlock ∧ some k_ ≠ (.slice Ao28 x10_2.length co28 : Value).ownBlock ∧ some k_ ≠ (u177001 : Value).ownBlock)) k_ ∧ some k_ ≠ (u177002 : Value).ownBlock) (Kd.R_apart' (Kd.R_apart' (HO_12.out) (Kd.S_typed HO_177001.out) (by decide)) (Kd.S_typed HO_177002.out) (by decide)) (fun k_ hk => ⟨⟨hk.1.1.1, ⟨hk.1.1.2, hk.1.2⟩⟩, hk.2⟩))) (fun _ h_ => h_))); (case aB => exact (by repeat (first | (with_reducible first | exact HB.out | apply below_alloc | apply pw_below_drewN | apply below_drew1 | refine below_set ?_ GE175.out | refine below_set ?_ GE176.out) | exact HB.out))); (case aF => exact (fun k_ hk => ⟨Kd.fresh' (Kd.R_lt (by (with_reducible repeat (first | apply Kd.R_alloc | apply Kd.R_drewN | apply Kd.R_drew)); exact HO_10.out)) k_ hk, Kd.fresh' (Kd.R_lt (by (with_reducible repeat (first | apply Kd.R_alloc | apply Kd.R_drewN | apply Kd.R_drew)); exact HO_66.out)) k_ hk, Kd.fresh' (Kd.S_lt (by (with_reducible repeat (first | apply Kd.S_alloc | apply Kd.S_drewN | apply Kd.S_drew)); exact HO_177001.out)) k_ hk⟩)); (case aO => exact (by (with_reducible repeat (first | apply Kd.S_alloc | apply Kd.S_drewN | apply Kd.S_drew)); exact Kd.S_mono HO_177002.out (fun k_ hk => ⟨⟨hk.1, ⟨hk.2.2.1, hk.2.2.2⟩⟩, fun e_ => hk.2.1 e_⟩))); (case aS => exact (below_size (by repeat (first | (with_reducible first | exact HB.out | apply below_alloc | apply pw_below_drewN | apply below_drew1 | refine below_set ?_ GE175.out | refine below_set ?_ GE176.out) | exact HB.out)))); (case aL => have := LMc34.out; omega); intro v193 w40 ho hb hg hat; rw [← Ny192.out] at ho; have n0_ := Aside0.mk (Kd.R_over' (by (with_reducible repeat (first | apply Kd.R_alloc | apply Kd.R_drewN | apply Kd.R_drew)); exact HO_10.out) (Kd.S_typed (by (with_reducible repeat (first | apply Kd.S_alloc | apply Kd.S_drewN | apply Kd.S_drew)); exact HO_177002.out)) (by decide) hg); have n1_ := Aside0.mk (Kd.R_over' (by (with_reducible repeat (first | apply Kd.R_alloc | apply Kd.R_drewN | apply Kd.R_drew)); exact HO_66.out) (Kd.S_typed (by (with_reducible repeat (first | apply Kd.S_alloc | apply Kd.S_drewN | apply Kd.S_drew)); exact HO_177002.out)) (by decide) hg); have n2_ := Aside0.mk (Kd.S_after (ok := (fun k_ => some k_ ≠ (.slice Ao28 x10_2.length co28 : Value).ownBlock ∧ some k_ ≠ (.slice Ao41 x12_3.length co41 : Value).ownBlock ∧ some k_ ≠ (.slice Ao28 x10_2.length co28 : Value).ownBlock)) (by (with_reducible repeat (first | apply Kd.S_alloc | apply Kd.S_drewN | apply Kd.S_drew)); exact Kd.S_mono HO_177001.out (fun _ hk => ⟨⟨hk.1, ⟨hk.2.1, hk.2.2.1⟩⟩, hk.2.2.2⟩)) hg hat); have n3_ := Aside0.mk (blk_grown (g := gb175) (o := .cells #[.int .i64 0, .slice none 0 0, .slice none 0 0] 50 (0, 0)) (by (with_reducible repeat (first | refine blk_drewN ?_ _ | refine blk_drew ?_ | refine blk_alloc ?_ _)); exact BK175.out) hg (Kd.S_ne HO_177002.out BK175.out (by decide))); have n4_ := Aside0.mk (blk_grown (g := gb176) (o := .cells #[.int .i64 (l0.length : Int), u177001, u177002] 50 (0, 0)) (by (with_reducible repeat (first | refine blk_drewN ?_ _ | refine blk_drew ?_ | refine blk_alloc ?_ _)); exact BK176.out) hg (Kd.S_ne HO_177002.out BK176.out (by decide))); have n5_ := Aside0.mk (hb); have n6_ := Aside0.mk (ho); clear HO_10; clear HO_66; clear HO_177001; clear BK175; clear BK176; clear HB; clear HO_177002; clear HO_12; have HO_10 := n0_; have HO_66 := n1_; have HO_177001 := n2_; have BK175 := n3_; have BK176 := n4_; have HB := n5_; have HO194 := n6_; clear n0_ n1_ n2_ n3_ n4_ n5_ n6_; clear ho hb hg hat; obtain ⟨Ao42, co42, eo42⟩ := Kd.S_slice HO194.out; subst eo42; have hcz43_0 : w40.cell? ⟨gb176, 0, none⟩ = some (.int .i64 (l0.length : Int)) := (blk_cell BK176.out 0).trans rfl; have hcz43_1 : w40.cell? ⟨gb176, 1, none⟩ = some (u177001) := (blk_cell BK176.out 1).trans rfl; have hcz43_2 : w40.cell? ⟨gb176, 2, none⟩ = some (u177002) := (blk_cell BK176.out 2).trans rfl; have hfz43_0 := blk_frozen BK176.out 0; have hfz43_1 := blk_frozen BK176.out 1; have hfz43_2 := blk_frozen BK176.out 2; have p195 : 0 ≤ (x11_2 : Int) := of_decide_eq_true (by first | (with_reducible assumption) | assumption); have q195 : x11_2 < (l0.length : Int) := of_decide_eq_true (by first | (with_reducible assumption) | assumption); obtain ⟨ad195, A195_0, c195_0, e195, hx195_0, hl195_0, hi195_0⟩ := at_L1 HR0.out x11_2 p195 q195; cases e195; have hn195_0 : ad195.block ≠ gb176 := Nat.ne_of_lt (Nat.lt_of_lt_of_le (by have := World.block_lt_of_cell? _ _ hx195_0; first | rwa [add_block] at this | exact this) GW176.out); (try replace hx195_0 := (HB.out.cell (World.block_lt_of_cell? w _ hx195_0)).trans hx195_0); have HR195_0 := Aside0.mk hi195_0; have HC195_0 := Aside0.mk hl195_0; clear hi195_0 hl195_0; replace hx195_0 := (cell_far (p := ⟨gb176, 2, none⟩) (by first | (rw [add_block]; exact hn195_0) | (show (Addr.add _ _).block ≠ _; rw [add_block]; exact hn195_0) | exact hn195_0) (.slice Ao42 y192.length co42)).trans hx195_0; clear hn195_0; replace p195 := eq_true p195; replace q195 := eq_true q195))
                go_loopg [97] k3 (fun kq v97 w' => ∃ (x10_4 : List Int) (x97_4 : Int), v97 = .int .i64 x97_4 ∧ Aside0 (spec_loOf.l4 kq l0 (l0.length : Int) x10_4 x11_2 (rd_L1 l0 x11_2) ((rd_L1 l0 x11_2).length : Int) x97_4 (l0.length : Int) x177001_1 y192 = some (r1, r2, r3)) ∧ Aside0 (kq ≤ k3) ∧ Aside0 (Kd.R (Kd.int .i64) 3 w' w.heap.size (fun _ => True) (.slice Ao28 x10_2.length co28) x10_4) ∧ Aside0 (Kd.S (Kd.slice 3 (Kd.int .i64)) 28 w' w.heap.size (fun k_ => some k_ ≠ ((.slice Ao28 x10_2.length co28) : Value).ownBlock ∧ some k_ ≠ ((.slice Ao42 y192.length co42) : Value).ownBlock) u177001 x177001_1) ∧ Aside0 (Kd.S (Kd.slice 3 (Kd.int .i64)) 28 w' w.heap.size (fun k_ => some k_ ≠ ((.slice Ao28 x10_2.length co28) : Value).ownBlock ∧ some k_ ≠ (u177001 : Value).ownBlock) (.slice Ao42 y192.length co42) y192) ∧ Aside0 (w'.heap[gb175]? = some (.cells #[.int .i64 0, (.slice none 0 0), (.slice none 0 0)] 50 (0, 0))) ∧ Aside0 (w'.heap[gb176]? = some (.cells #[.int .i64 (l0.length : Int), u177001, (.slice Ao42 y192.length co42)] 50 (0, 0))) ∧ Aside0 (Below w.heap.size w w'))
                case atStart => exact ⟨(x10_2), (0), (by first | rfl | (simp; done) | (simp [*]; done)), H', ⟨Nat.le_refl _⟩, ⟨by (with_reducible repeat (first | apply Kd.R_alloc | apply Kd.R_drewN | apply Kd.R_drew)); exact Kd.R_mono (Kd.R_far (p := ⟨gb176, 2, none⟩) (Kd.R_types HO_10.out BK176.out (by decide)) (fun _ hk => hk.2) (.slice Ao42 y192.length co42)) (fun _ hk => trivial)⟩, ⟨by (with_reducible repeat (first | apply Kd.S_alloc | apply Kd.S_drewN | apply Kd.S_drew)); exact Kd.S_mono (Kd.S_far (p := ⟨gb176, 2, none⟩) (Kd.S_types HO_177001.out BK176.out (by decide)) (fun _ hk => hk.2) (.slice Ao42 y192.length co42)) (fun _ hk => ⟨hk.1.1.1, hk.1.2⟩)⟩, ⟨by (with_reducible repeat (first | apply Kd.S_alloc | apply Kd.S_drewN | apply Kd.S_drew)); exact Kd.S_mono (Kd.S_far (p := ⟨gb176, 2, none⟩) (Kd.S_types HO194.out BK176.out (by decide)) (fun _ hk => hk.2) (.slice Ao42 y192.length co42)) (fun _ hk => ⟨hk.1.1, hk.1.2.2⟩)⟩, ⟨by (with_reducible repeat (first | refine blk_drewN ?_ _ | refine blk_drew ?_ | refine blk_alloc ?_ _)); refine blk_far ?_ NB175_176.out _; (with_reducible repeat (first | refine blk_drewN ?_ _ | refine blk_drew ?_ | refine blk_alloc ?_ _)); exact BK175.out⟩, ⟨by (with_reducible repeat (first | refine blk_drewN ?_ _ | refine blk_drew ?_ | refine blk_alloc ?_ _)); refine blk_put (cs := #[.int .i64 (l0.length : Int), u177001, u177002]) ?_ 2 _ rfl; (with_reducible repeat (first | refine blk_drewN ?_ _ | refine blk_drew ?_ | refine blk_alloc ?_ _)); exact BK176.out⟩, ⟨by repeat (first | (with_reducible first | exact HB.out | apply below_alloc | apply pw_below_drewN | apply below_drew1 | refine below_set ?_ GE175.out | refine below_set ?_ GE176.out) | exact HB.out)⟩⟩
                case round =>
                 clear H'
                 try clear c1
                 try clear p1
                 try clear q1
                 try clear hx1
                 try clear c2
                 try clear p2
                 try clear c3
                 try clear c4
                 try clear c6
                 try clear c6b0
                 try clear p6
                 try clear c7
                 try clear c7b0
                 try clear c8
                 try clear c8b0
                 try clear c9
                 try clear c9b0
                 try clear c10
                 try clear c11
                 try clear c11b0
                 try clear c12
                 try clear c12b0
                 try clear c13
                 try clear c13b0
                 try clear c16
                 try clear c17
                 try clear p17
                 try clear q17
                 try clear hx17
                 try clear p18
                 try clear q18
                 try clear hx18
                 try clear c19
                 try clear p19
                 try clear q19
                 try clear hx19
                 try clear c23
                 try clear c23b0
                 try clear c23b1
                 try clear c24
                 try clear c24b0
                 try clear c24b1
                 try clear c27
                 try clear c27b0
                 try clear c29
                 try clear c29b0
                 try clear c30
                 try clear c30b0
                 try clear c31
                 try clear c31b0
                 try clear c32
                 try clear c34
                 try clear c35
                 try clear c35b0
                 try clear c36
                 try clear c36b0
                 try clear c37
                 try clear c37b0
                 try clear c38
                 try clear c42
                 try clear hcz18_0
                 try clear hcz18_1
                 try clear hcz18_2
                 try clear hcz22_0
                 try clear hcz22_1
                 try clear hcz22_2
                 try clear hcz39_0
                 try clear hcz39_1
                 try clear hcz39_2
                 try clear hcz43_0
                 try clear hcz43_1
                 try clear hcz43_2
                 try clear hcz5_0
                 try clear hcz5_1
                 try clear hcz5_2
                 try clear hfz18_0
                 try clear hfz18_1
                 try clear hfz18_2
                 try clear hfz22_0
                 try clear hfz22_1
                 try clear hfz22_2
                 try clear hfz39_0
                 try clear hfz39_1
                 try clear hfz39_2
                 try clear hfz43_0
                 try clear hfz43_1
                 try clear hfz43_2
                 try clear hfz5_0
                 try clear hfz5_1
                 try clear hfz5_2
                 try clear hx177_0
                 try clear hx181_0
                 try clear hx188_0
                 try clear hx195_0
                 try clear p1
                 try clear p17
                 try clear p177
                 try clear p18
                 try clear p181
                 try clear p188
                 try clear p195
                 try clear p2
                 try clear p6
                 try clear q1
                 try clear q17
                 try clear q177
                 try clear q18
                 try clear q181
                 try clear q188
                 try clear q195
                 obtain ⟨x10_4, x97_4, rfl, HA, HK4, HO_10, HO_177001, HO_177002, BK175, BK176, HB⟩ := hrel
                 have hl10_4 := (Kd.R_reads' HO_10.out).1
                 rw [hl10_4] at HO_10
                 (try simp only [hl10_4])
                 (try simp only [hl10_4] at BK175)
                 (try simp only [hl10_4] at BK176)
                 (try simp only [hl10_4] at HO_177001)
                 (try simp only [hl10_4] at HO_177002)
                 cases gk with
                 | zero => exact absurd HA.out (by simp [spec_loOf.l4])
                 | succ k4 =>
                  have H := HA.out
                  clear HA
                  simp only [spec_loOf.l4] at H
                  by_cases c44 : x97_4 < ((rd_L1 l0 x11_2).length : Int)
                  ·rw [if_pos c44] at H
                   have c44b0 : decide (x97_4 < ((rd_L1 l0 x11_2).length : Int)) = true := decide_eq_true c44
                   clear c44
                   by_cases c45 : 0 ≤ x97_4
                   ·rw [if_pos c45] at H
                    have c45b0 : decide (0 ≤ x97_4) = true := decide_eq_true c45
                    clear c45
                    by_cases c46 : x97_4 < ((rd_L1 l0 x11_2).length : Int)
                    ·rw [if_pos c46] at H
                     have c46b0 : decide (x97_4 < ((rd_L1 l0 x11_2).length : Int)) = true := decide_eq_true c46
                     clear c46
                     by_cases c47 : x97_4 < (x10_4.length : Int)
                     ·rw [if_pos c47] at H
                      have c47b0 : decide (x97_4 < (x10_4.length : Int)) = true := decide_eq_true c47
                      clear c47
                      obtain ⟨y198, hy198⟩ : ∃ y_ : List Int, y_ = (x10_4.set (x97_4 : Int).toNat (wrap64 ((rd x10_4 x97_4) + (rd (rd_L1 l0 x11_2) x97_4)))) := ⟨_, rfl⟩
                      replace H : (spec_loOf.l4 k4 l0 (l0.length : Int) y198 x11_2 (rd_L1 l0 x11_2) ((rd_L1 l0 x11_2).length : Int) (wrap64 (x97_4 + 1)) (l0.length : Int) x177001_1 y192) = some (r1, r2, r3) := by first | (rw [hy198]; with_reducible exact H) | (have H2_ := (Option.bind_some _ _).symm.trans H; rw [hy198]; with_reducible exact H2_) | (have H2_ := (Option.bind_some _ _).symm.trans H; with_reducible exact H2_) | with_reducible exact H | (rw [hy198]; exact H) | exact H
                      have Ny198 := Aside0.mk hy198
                      clear hy198
                      have H' := Aside0.mk H
                      clear H
                      have p196 : 0 ≤ (x97_4 : Int) := of_decide_eq_true (by first | (with_reducible assumption) | assumption)
                      have q196 : x97_4 < ((rd_L1 l0 x11_2).length : Int) := of_decide_eq_true (by first | (with_reducible assumption) | assumption)
                      obtain ⟨ad196, e196, hx196_0⟩ := Kd.at_int HR195_0.out x97_4 p196 q196
                      cases e196
                      (try replace hx196_0 := (HB.out.cell (World.block_lt_of_cell? w _ hx196_0)).trans hx196_0)
                      replace p196 := eq_true p196
                      replace q196 := eq_true q196
                      have p197 : 0 ≤ (x97_4 : Int) := of_decide_eq_true (by first | (with_reducible assumption) | assumption)
                      have q197 : x97_4 < (x10_4.length : Int) := of_decide_eq_true (by first | (with_reducible assumption) | assumption)
                      obtain ⟨ad197, e197, hx197_0⟩ := Kd.at_int (Kd.R_reads' HO_10.out).2.2 x97_4 p197 q197
                      cases e197
                      replace p197 := eq_true p197
                      replace q197 := eq_true q197
                      have p48 : 0 ≤ (x97_4 : Int) := of_decide_eq_true (by first | (with_reducible assumption) | assumption)
                      have q48 : (x97_4 : Int) < ((x10_4.length : Int) : Int) := of_decide_eq_true (by first | (with_reducible assumption) | assumption)
                      obtain ⟨go48, co48, eo48, gb48, gl48, cl48, HG48⟩ := Kd.R_form HO_10.out (by omega)
                      (first | cases eo48 | (injection eo48 with ea_ en_ ec_; (first | subst ea_ | (injection ea_ with ea_; subst ea_)); subst ec_; clear en_))
                      have GB48 := Aside0.mk gb48
                      have GG48 := Aside0.mk HG48
                      clear gb48 gl48 HG48
                      (first | simp only [add_plain] at hx197_0 | skip)
                      obtain ⟨hx48_0, hf48_0⟩ := Kd.R_celln 0 HO_10.out (x97_4 : Int) p48 q48
                      replace p48 := eq_true p48
                      replace q48 := eq_true q48
                      have HP49 := Kd.R_putg HO_10.out (x97_4 : Int) (wrap64 ((rd x10_4 x97_4) + (rd (rd_L1 l0 x11_2) x97_4)))
                      go_wp2_with (first | ((with_reducible refine gate_store (t := 3) (p := 108) rfl ?_); refine store_event (t := 3) (p := 108) (v := ?vo_w50) (w1 := (wr.setCell ⟨go48, (x97_4 : Int).toNat, none⟩ (.int .i64 (wrap64 ((rd x10_4 x97_4) + (rd (rd_L1 l0 x11_2) x97_4)))))) ?hg ?ho ?hn ?hr ?_; (case ho => rfl); (case hg => rfl); (case hn => rfl); (case hr => first | (go_simp; done) | (go_simp; rfl)); intro w50 hw; have hg : wr.grownBy w50 (some go48) := (by rw [hw]; exact HP49.2); have hp_ : Kd.R (Kd.int .i64) 3 w50 w.heap.size (fun _ => True) (.slice (some ⟨go48, 0, none⟩) x10_4.length co28) y198 := (by rw [hw, Ny198.out]; exact HP49.1); clear HP49; have n0_ := Aside0.mk (hp_); have n1_ := Aside0.mk (Kd.S_after (v := (.slice (some ⟨go48, 0, none⟩) x10_4.length co28)) (v1 := (.slice (some ⟨go48, 0, none⟩) x10_4.length co28)) (ok := (fun k_ => some k_ ≠ (.slice Ao42 y192.length co42 : Value).ownBlock)) (by (with_reducible repeat (first | apply Kd.S_alloc | apply Kd.S_drewN | apply Kd.S_drew)); exact Kd.S_mono HO_177001.out (fun _ hk => ⟨hk.2, hk.1⟩)) hg (.inl rfl)); have n2_ := Aside0.mk (Kd.S_after (v := (.slice (some ⟨go48, 0, none⟩) x10_4.length co28)) (v1 := (.slice (some ⟨go48, 0, none⟩) x10_4.length co28)) (ok := (fun k_ => some k_ ≠ (u177001 : Value).ownBlock)) (by (with_reducible repeat (first | apply Kd.S_alloc | apply Kd.S_drewN | apply Kd.S_drew)); exact Kd.S_mono HO_177002.out (fun _ hk => ⟨hk.2, hk.1⟩)) hg (.inl rfl)); have n3_ := Aside0.mk (blk_grown (g := gb175) (o := .cells #[.int .i64 0, .slice none 0 0, .slice none 0 0] 50 (0, 0)) (by (with_reducible repeat (first | refine blk_drewN ?_ _ | refine blk_drew ?_ | refine blk_alloc ?_ _)); exact BK175.out) hg (Kd.R_ne HO_10.out BK175.out (by decide))); have n4_ := Aside0.mk (blk_grown (g := gb176) (o := .cells #[.int .i64 (l0.length : Int), u177001, .slice Ao42 y192.length co42] 50 (0, 0)) (by (with_reducible repeat (first | refine blk_drewN ?_ _ | refine blk_drew ?_ | refine blk_alloc ?_ _)); exact BK176.out) hg (Kd.R_ne HO_10.out BK176.out (by decide))); have n5_ := Aside0.mk ((by rw [hw]; exact below_set (HB.out) GB48.out : Below w.heap.size w w50)); clear HO_10; clear HO_177001; clear HO_177002; clear BK175; clear BK176; clear HB; have HO_10 := n0_; have HO_177001 := n1_; have HO_177002 := n2_; have BK175 := n3_; have BK176 := n4_; have HB := n5_; clear n0_ n1_ n2_ n3_ n4_ n5_; clear hg hw hp_))
                      (try simp only [← hl10_4])
                      go_roundg k4
                      case measure => have := HK1.out; have := HK2.out; have := HK3.out; have := HK4.out; omega
                      case rel => exact ⟨(y198), (wrap64 (x97_4 + 1)), (by first | rfl | (simp; done) | (simp [*]; done)), H', ⟨by have := HK1.out; have := HK2.out; have := HK3.out; have := HK4.out; omega⟩, ⟨by (try simp only [hl10_4]); (with_reducible repeat (first | apply Kd.R_alloc | apply Kd.R_drewN | apply Kd.R_drew)); exact HO_10.out⟩, ⟨by (try simp only [hl10_4]); (with_reducible repeat (first | apply Kd.S_alloc | apply Kd.S_drewN | apply Kd.S_drew)); exact Kd.S_mono HO_177001.out (fun _ hk => ⟨hk.2, hk.1⟩)⟩, ⟨by (try simp only [hl10_4]); (with_reducible repeat (first | apply Kd.S_alloc | apply Kd.S_drewN | apply Kd.S_drew)); exact Kd.S_mono HO_177002.out (fun _ hk => ⟨hk.2, hk.1⟩)⟩, ⟨by (try simp only [hl10_4]); (with_reducible repeat (first | refine blk_drewN ?_ _ | refine blk_drew ?_ | refine blk_alloc ?_ _)); exact BK175.out⟩, ⟨by (try simp only [hl10_4]); (with_reducible repeat (first | refine blk_drewN ?_ _ | refine blk_drew ?_ | refine blk_alloc ?_ _)); exact BK176.out⟩, ⟨by repeat (first | (with_reducible first | exact HB.out | apply below_alloc | apply pw_below_drewN | apply below_drew1 | refine below_set ?_ GE175.out | refine below_set ?_ GE176.out) | exact HB.out)⟩⟩
                     ·rw [if_neg c47] at H
                      exact absurd H (by simp)
                    ·rw [if_neg c46] at H
                     exact absurd H (by simp)
                   ·rw [if_neg c45] at H
                    exact absurd H (by simp)
                  ·rw [if_neg c44] at H
                   have c44b0 : decide (x97_4 < ((rd_L1 l0 x11_2).length : Int)) = false := decide_eq_false c44
                   clear c44
                   have H' := Aside0.mk H
                   clear H
                   go_wp2
                   (try simp only [← hl10_4])
                   go_roundg k4
                   case measure => have := HK1.out; have := HK2.out; have := HK3.out; have := HK4.out; omega
                   case rel => exact ⟨(x10_4), (wrap64 (x11_2 + 1)), (y192), (.slice Ao42 y192.length co42), (by first | rfl | (simp; done) | (simp [*]; done)), H', ⟨by have := HK1.out; have := HK2.out; have := HK3.out; have := HK4.out; omega⟩, ⟨by (try simp only [hl10_4]); (with_reducible repeat (first | apply Kd.R_alloc | apply Kd.R_drewN | apply Kd.R_drew)); exact HO_10.out⟩, ⟨by (try simp only [hl10_4]); (with_reducible repeat (first | apply Kd.S_alloc | apply Kd.S_drewN | apply Kd.S_drew)); exact HO_177001.out⟩, ⟨by (try simp only [hl10_4]); (with_reducible repeat (first | apply Kd.S_alloc | apply Kd.S_drewN | apply Kd.S_drew)); exact HO_177002.out⟩, ⟨by (try simp only [hl10_4]); (with_reducible repeat (first | refine blk_drewN ?_ _ | refine blk_drew ?_ | refine blk_alloc ?_ _)); exact BK175.out⟩, ⟨by (try simp only [hl10_4]); (with_reducible repeat (first | refine blk_drewN ?_ _ | refine blk_drew ?_ | refine blk_alloc ?_ _)); exact BK176.out⟩, ⟨by repeat (first | (with_reducible first | exact HB.out | apply below_alloc | apply pw_below_drewN | apply below_drew1 | refine below_set ?_ GE175.out | refine below_set ?_ GE176.out) | exact HB.out)⟩⟩
               ·rw [if_neg c37] at H
                exact absurd H (by simp)
              ·rw [if_neg c36] at H
               exact absurd H (by simp)
             ·rw [if_neg c35] at H
              have c35b0 : decide (x11_2 < (l0.length : Int)) = false := decide_eq_false c35
              clear c35
              have H' := Aside0.mk H
              clear H
              have hnb51 := NB176_175.out
              have hnc51 := NB175_176.out
              have hcz52_0 : wr.cell? ⟨gb176, 0, none⟩ = some (.int .i64 (l0.length : Int)) := (blk_cell BK176.out 0).trans rfl
              have hcz52_1 : wr.cell? ⟨gb176, 1, none⟩ = some (u177001) := (blk_cell BK176.out 1).trans rfl
              have hcz52_2 : wr.cell? ⟨gb176, 2, none⟩ = some (u177002) := (blk_cell BK176.out 2).trans rfl
              have hfz52_0 := blk_frozen BK176.out 0
              have hfz52_1 := blk_frozen BK176.out 1
              have hfz52_2 := blk_frozen BK176.out 2
              obtain ⟨Ao54, co54, eo54⟩ := Kd.R_slice HO_12.out
              subst eo54
              go_wp2_with (first | ((with_reducible refine gate_builtin (b := .append) (xs := #[.tmp 84, .tmp 86]) rfl ?_); at_builtin; refine Kd.S_append (Kd.slice 3 (Kd.int .i64)) (w0 := w) w.heap.size rfl (.tmp 84) (.tmp 86) 22 28 (.slice none 0 0) 24 rfl Try.underlying22 info28 rfl (by decide) (by omega) u177002 x177002_2 x12_3 [.slice Ao54 x12_3.length co54] (fun k_ => some k_ ≠ (.slice Ao28 x10_2.length co28 : Value).ownBlock ∧ some k_ ≠ (.slice Ao28 x10_2.length co28 : Value).ownBlock ∧ some k_ ≠ (u177001 : Value).ownBlock) (fun k_ => some k_ = (.slice Ao54 x12_3.length co54 : Value).ownBlock) rfl rfl ?aP (fun k_ hk_ => ((Kd.R_mono (ok' := fun k_ => ((fun k_ => some k_ ≠ (.slice Ao28 x10_2.length co28 : Value).ownBlock ∧ some k_ ≠ (.slice Ao28 x10_2.length co28 : Value).ownBlock ∧ some k_ ≠ (u177001 : Value).ownBlock)) k_ ∧ some k_ ≠ (u177002 : Value).ownBlock) (Kd.R_apart' (Kd.R_apart' (HO_12.out) (Kd.S_typed HO_177001.out) (by decide)) (Kd.S_typed HO_177002.out) (by decide)) (fun k_ hk => ⟨⟨hk.1.1.1, ⟨hk.1.1.2, hk.1.2⟩⟩, hk.2⟩))).1 k_ hk_.symm) ?aF ?aO ?aB ?aS ?aL ?_; (case aP => exact Kd.M_row (Kd.R_mono (Kd.R_tight rfl (Kd.R_mono (ok' := fun k_ => ((fun k_ => some k_ ≠ (.slice Ao28 x10_2.length co28 : Value).ownBlock ∧ some k_ ≠ (.slice Ao28 x10_2.length co28 : Value).ownBlock ∧ some k_ ≠ (u177001 : Value).ownBlock)) k_ ∧ some k_ ≠ (u177002 : Value).ownBlock) (Kd.R_apart' (Kd.R_apart' (HO_12.out) (Kd.S_typed HO_177001.out) (by decide)) (Kd.S_typed HO_177002.out) (by decide)) (fun k_ hk => ⟨⟨hk.1.1.1, ⟨hk.1.1.2, hk.1.2⟩⟩, hk.2⟩))) (fun _ h_ => h_))); (case aB => exact (by repeat (first | (with_reducible first | exact HB.out | apply below_alloc | apply pw_below_drewN | apply below_drew1 | refine below_set ?_ GE175.out | refine below_set ?_ GE176.out) | exact HB.out))); (case aF => exact (fun k_ hk => ⟨Kd.fresh' (Kd.R_lt (by (with_reducible repeat (first | apply Kd.R_alloc | apply Kd.R_drewN | apply Kd.R_drew)); exact HO_10.out)) k_ hk, Kd.fresh' (Kd.R_lt (by (with_reducible repeat (first | apply Kd.R_alloc | apply Kd.R_drewN | apply Kd.R_drew)); exact HO_66.out)) k_ hk, Kd.fresh' (Kd.S_lt (by (with_reducible repeat (first | apply Kd.S_alloc | apply Kd.S_drewN | apply Kd.S_drew)); exact HO_177001.out)) k_ hk⟩)); (case aO => exact (by (with_reducible repeat (first | apply Kd.S_alloc | apply Kd.S_drewN | apply Kd.S_drew)); exact Kd.S_mono HO_177002.out (fun k_ hk => ⟨⟨hk.1, ⟨hk.2.2.1, hk.2.2.2⟩⟩, fun e_ => hk.2.1 e_⟩))); (case aS => exact (below_size (by repeat (first | (with_reducible first | exact HB.out | apply below_alloc | apply pw_below_drewN | apply below_drew1 | refine below_set ?_ GE175.out | refine below_set ?_ GE176.out) | exact HB.out)))); (case aL => have := LMc34.out; omega); intro v193 w53 ho hb hg hat; rw [← Ny192.out] at ho; have n0_ := Aside0.mk (Kd.R_over' (by (with_reducible repeat (first | apply Kd.R_alloc | apply Kd.R_drewN | apply Kd.R_drew)); exact HO_10.out) (Kd.S_typed (by (with_reducible repeat (first | apply Kd.S_alloc | apply Kd.S_drewN | apply Kd.S_drew)); exact HO_177002.out)) (by decide) hg); have n1_ := Aside0.mk (Kd.R_over' (by (with_reducible repeat (first | apply Kd.R_alloc | apply Kd.R_drewN | apply Kd.R_drew)); exact HO_66.out) (Kd.S_typed (by (with_reducible repeat (first | apply Kd.S_alloc | apply Kd.S_drewN | apply Kd.S_drew)); exact HO_177002.out)) (by decide) hg); have n2_ := Aside0.mk (Kd.S_after (ok := (fun k_ => some k_ ≠ (.slice Ao28 x10_2.length co28 : Value).ownBlock ∧ some k_ ≠ (.slice Ao54 x12_3.length co54 : Value).ownBlock ∧ some k_ ≠ (.slice Ao28 x10_2.length co28 : Value).ownBlock)) (by (with_reducible repeat (first | apply Kd.S_alloc | apply Kd.S_drewN | apply Kd.S_drew)); exact Kd.S_mono HO_177001.out (fun _ hk => ⟨⟨hk.1, ⟨hk.2.1, hk.2.2.1⟩⟩, hk.2.2.2⟩)) hg hat); have n3_ := Aside0.mk (blk_grown (g := gb175) (o := .cells #[.int .i64 0, .slice none 0 0, .slice none 0 0] 50 (0, 0)) (by (with_reducible repeat (first | refine blk_drewN ?_ _ | refine blk_drew ?_ | refine blk_alloc ?_ _)); exact BK175.out) hg (Kd.S_ne HO_177002.out BK175.out (by decide))); have n4_ := Aside0.mk (blk_grown (g := gb176) (o := .cells #[.int .i64 (l0.length : Int), u177001, u177002] 50 (0, 0)) (by (with_reducible repeat (first | refine blk_drewN ?_ _ | refine blk_drew ?_ | refine blk_alloc ?_ _)); exact BK176.out) hg (Kd.S_ne HO_177002.out BK176.out (by decide))); have n5_ := Aside0.mk (hb); have n6_ := Aside0.mk (ho); clear HO_10; clear HO_66; clear HO_177001; clear BK175; clear BK176; clear HB; clear HO_177002; clear HO_12; have HO_10 := n0_; have HO_66 := n1_; have HO_177001 := n2_; have BK175 := n3_; have BK176 := n4_; have HB := n5_; have HO194 := n6_; clear n0_ n1_ n2_ n3_ n4_ n5_ n6_; clear ho hb hg hat; obtain ⟨Ao55, co55, eo55⟩ := Kd.S_slice HO194.out; subst eo55; have hcz56_0 : w53.cell? ⟨gb176, 0, none⟩ = some (.int .i64 (l0.length : Int)) := (blk_cell BK176.out 0).trans rfl; have hcz56_1 : w53.cell? ⟨gb176, 1, none⟩ = some (u177001) := (blk_cell BK176.out 1).trans rfl; have hcz56_2 : w53.cell? ⟨gb176, 2, none⟩ = some (u177002) := (blk_cell BK176.out 2).trans rfl; have hfz56_0 := blk_frozen BK176.out 0; have hfz56_1 := blk_frozen BK176.out 1; have hfz56_2 := blk_frozen BK176.out 2))
              go_roundg k3
              case measure => have := HK1.out; have := HK2.out; have := HK3.out; omega
              case rel => exact ⟨(x10_2), (wrap64 (x11_2 + 1)), (y192), (.slice Ao55 y192.length co55), (by first | rfl | (simp; done) | (simp [*]; done)), H', ⟨by have := HK1.out; have := HK2.out; have := HK3.out; omega⟩, ⟨by (with_reducible repeat (first | apply Kd.R_alloc | apply Kd.R_drewN | apply Kd.R_drew)); exact Kd.R_mono (Kd.R_far (p := ⟨gb176, 2, none⟩) (Kd.R_types HO_10.out BK176.out (by decide)) (fun _ hk => hk.2) (.slice Ao55 y192.length co55)) (fun _ hk => trivial)⟩, ⟨by (with_reducible repeat (first | apply Kd.S_alloc | apply Kd.S_drewN | apply Kd.S_drew)); exact Kd.S_mono (Kd.S_far (p := ⟨gb176, 2, none⟩) (Kd.S_types HO_177001.out BK176.out (by decide)) (fun _ hk => hk.2) (.slice Ao55 y192.length co55)) (fun _ hk => ⟨hk.1.1.1, hk.1.2⟩)⟩, ⟨by (with_reducible repeat (first | apply Kd.S_alloc | apply Kd.S_drewN | apply Kd.S_drew)); exact Kd.S_mono (Kd.S_far (p := ⟨gb176, 2, none⟩) (Kd.S_types HO194.out BK176.out (by decide)) (fun _ hk => hk.2) (.slice Ao55 y192.length co55)) (fun _ hk => ⟨hk.1.1, hk.1.2.2⟩)⟩, ⟨by (with_reducible repeat (first | refine blk_drewN ?_ _ | refine blk_drew ?_ | refine blk_alloc ?_ _)); refine blk_far ?_ NB175_176.out _; (with_reducible repeat (first | refine blk_drewN ?_ _ | refine blk_drew ?_ | refine blk_alloc ?_ _)); exact BK175.out⟩, ⟨by (with_reducible repeat (first | refine blk_drewN ?_ _ | refine blk_drew ?_ | refine blk_alloc ?_ _)); refine blk_put (cs := #[.int .i64 (l0.length : Int), u177001, u177002]) ?_ 2 _ rfl; (with_reducible repeat (first | refine blk_drewN ?_ _ | refine blk_drew ?_ | refine blk_alloc ?_ _)); exact BK176.out⟩, ⟨by repeat (first | (with_reducible first | exact HB.out | apply below_alloc | apply pw_below_drewN | apply below_drew1 | refine below_set ?_ GE175.out | refine below_set ?_ GE176.out) | exact HB.out)⟩⟩
            ·rw [if_neg c34] at H
             exact absurd H (by simp)
        ·rw [if_neg c27] at H
         have c27b0 : decide (x11_2 ≤ (l0.length : Int)) = false := decide_eq_false c27
         clear c27
         simp only [Option.some.injEq, Prod.mk.injEq] at H
         obtain ⟨rfl, rfl, rfl⟩ := H
         have hnb57 := NB176_175.out
         have hnc57 := NB175_176.out
         have hcz58_0 : wr.cell? ⟨gb176, 0, none⟩ = some (.int .i64 (l0.length : Int)) := (blk_cell BK176.out 0).trans rfl
         have hcz58_1 : wr.cell? ⟨gb176, 1, none⟩ = some (u177001) := (blk_cell BK176.out 1).trans rfl
         have hcz58_2 : wr.cell? ⟨gb176, 2, none⟩ = some (u177002) := (blk_cell BK176.out 2).trans rfl
         have hfz58_0 := blk_frozen BK176.out 0
         have hfz58_1 := blk_frozen BK176.out 1
         have hfz58_2 := blk_frozen BK176.out 2
         have hcz59_0 : wr.cell? ⟨gb175, 0, none⟩ = some (.int .i64 0) := (blk_cell BK175.out 0).trans rfl
         have hcz59_1 : wr.cell? ⟨gb175, 1, none⟩ = some (.slice none 0 0) := (blk_cell BK175.out 1).trans rfl
         have hcz59_2 : wr.cell? ⟨gb175, 2, none⟩ = some (.slice none 0 0) := (blk_cell BK175.out 2).trans rfl
         have hfz59_0 := blk_frozen BK175.out 0
         have hfz59_1 := blk_frozen BK175.out 1
         have hfz59_2 := blk_frozen BK175.out 2
         obtain ⟨Ao60, co60, eo60⟩ := Kd.S_slice HO_177001.out
         subst eo60
         obtain ⟨Ao61, co61, eo61⟩ := Kd.S_slice HO_177002.out
         subst eo61
         go_wp2
         refine bodyPost_ret (results_cell_row rfl _ _ gb175 50 #[.int .i64 (l0.length : Int), .slice Ao60 x177001_1.length co60, .slice Ao61 x177002_2.length co61] (0, 0) _ rfl (by (with_reducible repeat (first | refine blk_drewN ?_ _ | refine blk_drew ?_ | refine blk_alloc ?_ _)); refine blk_put (cs := #[.int .i64 (l0.length : Int), .slice Ao60 x177001_1.length co60, .slice none 0 0]) ?_ 2 _ rfl; (with_reducible repeat (first | refine blk_drewN ?_ _ | refine blk_drew ?_ | refine blk_alloc ?_ _)); refine blk_put (cs := #[.int .i64 (l0.length : Int), .slice none 0 0, .slice none 0 0]) ?_ 1 _ rfl; (with_reducible repeat (first | refine blk_drewN ?_ _ | refine blk_drew ?_ | refine blk_alloc ?_ _)); refine blk_put (cs := #[.int .i64 0, .slice none 0 0, .slice none 0 0]) ?_ 0 _ rfl; (with_reducible repeat (first | refine blk_drewN ?_ _ | refine blk_drew ?_ | refine blk_alloc ?_ _)); exact BK175.out) Try.underlying50 rfl (by kernel_rfl)) rfl ?_
         exact ⟨_, _, by first | rfl | (simp [errW_none, errW_some] <;> rfl) | (simp [*, errW_none, errW_some] <;> rfl), by (with_reducible repeat (first | apply Kd.S_alloc | apply Kd.S_drewN | apply Kd.S_drew)); exact Kd.S_mono (Kd.S_far (p := ⟨gb175, 2, none⟩) (Kd.S_far (p := ⟨gb175, 1, none⟩) (Kd.S_far (p := ⟨gb175, 0, none⟩) (Kd.S_types HO_177001.out BK175.out (by decide)) (fun _ hk => hk.2) (.int .i64 (l0.length : Int))) (fun _ hk => hk.2) (.slice Ao60 x177001_1.length co60)) (fun _ hk => hk.2) (.slice Ao61 x177002_2.length co61)) (fun _ hk => hk.1.2), by (with_reducible repeat (first | apply Kd.S_alloc | apply Kd.S_drewN | apply Kd.S_drew)); exact Kd.S_mono (Kd.S_far (p := ⟨gb175, 2, none⟩) (Kd.S_far (p := ⟨gb175, 1, none⟩) (Kd.S_far (p := ⟨gb175, 0, none⟩) (Kd.S_types HO_177002.out BK175.out (by decide)) (fun _ hk => hk.2) (.int .i64 (l0.length : Int))) (fun _ hk => hk.2) (.slice Ao60 x177001_1.length co60)) (fun _ hk => hk.2) (.slice Ao61 x177002_2.length co61)) (fun _ hk => hk.1.2), by repeat (first | (with_reducible first | exact HB.out | apply below_alloc | apply pw_below_drewN | apply below_drew1 | refine below_set ?_ GE175.out | refine below_set ?_ GE176.out) | exact HB.out)⟩
     ·rw [if_neg c24] at H
      exact absurd H (by simp)
    ·rw [if_neg c23] at H
     exact absurd H (by simp)

end Go.Proofs.Ythbkjaieenochaa.P
