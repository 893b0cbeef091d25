/- Texts of one chain, in build order. -/
import Derived.Test.YthbkjaieenochaaYSignsWithPattern36
namespace Go.Proofs.Ythbkjaieenochaa.P
open Go.RowKit Go.Proofs.YthbkjaieenochaaW.PrintWords Go.Proofs.YthbkjaieenochaaW.PrintLast Go.Proofs.YthbkjaieenochaaW.PrintMore
attribute [local go_sem] max2_int min2_int max_two min_two max_three min_three max_four min_four   -- for this text's walks alone
set_option linter.unusedVariables false
set_option linter.unusedSimpArgs false

def impl_pattern.l0 : Nat → List Int → Int → Int → Int → List (List Int) → List (List Int) → Option (List Int)
 | 0, _, _, _, _, _, _ => none
 | k + 1, x4, x13, x14, x477000, x477001, x477002 => if x14 < x13 then ((impl_Loops_fromEnd.f k x477000 x477001 x477002 x14).bind fun bt477 => (if x4.length < 17592186044416 then (impl_pattern.l0 k (x4 ++ [bt477.2]) x13 (wrap64 (x14 + 1)) x477000 x477001 x477002) else (none))) else (some x4)
def impl_pattern.f (k : Nat) (l0 : List (List Int)) : Option (List Int) := (impl_loops.f l0).bind fun bt466 => (impl_pattern.l0 k (([] : List Int)) (wrap64 (2 * (l0.length : Int))) 0 bt466.1 bt466.2.1 bt466.2.2)
set_option maxHeartbeats 8000000 in
set_option maxRecDepth 100000 in
theorem impl_pattern.calls (k : Nat) (A0 : Option Addr) (c0 : Nat) (l0 : List (List Int)) (r : List Int) (w : World) (hr0 : Kd.C (Kd.slice 3 (Kd.int .i64)) w A0 l0.length l0) (hc0 : l0.length ≤ c0) (h : impl_pattern.f k l0 = some r) :
  Calls Try.prog 51 #[.slice A0 l0.length c0] w fun e w' => ∃ v0_ : Value, e = .returned (v0_) ∧ Kd.R (Kd.int .i64) 3 w' w.heap.size (fun _ => True) v0_ r ∧ Below w.heap.size w w' := by
 have hu50 := Try.underlying50
 have HR0 := Aside0.mk hr0
 have HC0 := Aside0.mk hc0
 clear hr0 hc0
 have HB := Aside0.mk (Below.refl w.heap.size w)
 have H : ((impl_loops.f l0).bind fun bt466 => (impl_pattern.l0 k (([] : List Int)) (wrap64 (2 * (l0.length : Int))) 0 bt466.1 bt466.2.1 bt466.2.2)) = some r := h
 clear h
 replace H := Option.bind_eq_some_iff.mp H
 obtain ⟨⟨t466, t467, t470⟩, A20, H⟩ := H
 replace H : (impl_pattern.l0 k (([] : List Int)) (wrap64 (2 * (l0.length : Int))) 0 t466 t467 t470) = some r := H
 have A2 := Aside0.mk A20
 clear A20
 obtain ⟨y473, hy473⟩ : ∃ y_ : List Int, y_ = (([] : List Int)) := ⟨_, rfl⟩
 replace H : (impl_pattern.l0 k y473 (wrap64 (2 * (l0.length : Int))) 0 t466 t467 t470) = some r := by first | (rw [hy473]; with_reducible exact H) | (have H2_ := (Option.bind_some _ _).symm.trans H; rw [hy473]; with_reducible exact H2_) | (have H2_ := (Option.bind_some _ _).symm.trans H; with_reducible exact H2_) | with_reducible exact H | (rw [hy473]; exact H) | exact H
 have Ny473 := Aside0.mk hy473
 clear hy473
 have H' := Aside0.mk H
 clear H
 go_enter Try.func51, Try.ntmps51
 go_wp2_with (first | ((with_reducible refine gate_callee (f := 46) rfl ?_); refine goesL_ (some 9) rfl rfl Try.func46 (by kernel_rfl) rfl #[.slice A0 l0.length c0] rfl (by (try simp only [List.map_toArray, List.map_cons, List.map_nil]); first | done | rfl | (simp only [List.length_drop, List.length_take]; rfl)) ?_; (with_reducible refine (impl_loops.calls _ _ l0 t466 t467 t470 _ ?side1 ?side2 A2.out).mono ?_); (case side1 => repeat (first | exact HR0.out | (with_reducible refine Kd.C_alloc ?_ _) | (with_reducible refine Kd.C_drewN ?_ _) | (with_reducible refine Kd.C_drew ?_))); (case side2 => exact HC0.out); rintro e w3 ⟨v468, v471, rfl, ho0, ho1, hb⟩; refine ⟨_, rfl, ?_⟩; have n0_ := Aside0.mk (Kd.S_lower ho0 (below_size (by repeat (first | (with_reducible first | exact HB.out | apply below_alloc | apply pw_below_drewN | apply below_drew1) | exact HB.out)))); have n1_ := Aside0.mk (Kd.S_lower ho1 (below_size (by repeat (first | (with_reducible first | exact HB.out | apply below_alloc | apply pw_below_drewN | apply below_drew1) | exact HB.out)))); have n2_ := Aside0.mk (below_step (by repeat (first | (with_reducible first | exact HB.out | apply below_alloc | apply pw_below_drewN | apply below_drew1) | exact HB.out)) hb); clear HB; have HO469 := n0_; have HO472 := n1_; have HB := n2_; clear n0_ n1_ n2_; (try clear hb); (try clear hb2); (try clear hk); (try clear hi); (try clear ho0); (try clear ho1)) | ((with_reducible refine gate_dst (N := 10) rfl ?_); refine Kd.R_lit (Kd.int .i64) _ 3 ?hg (N := 10) ?hd (xs := ([] : List Int)) (inner := []) (ok := fun _ => True) (okp := fun _ => True) ?hr ?hp (fun _ hk => hk) trivial (Below.refl _ _) (Nat.le_refl _) (by simp) ?_; (case hd => rfl); (case hg => rfl); (case hr => first | (go_simp; done) | (go_simp; rfl)); (case hp => exact (Reps.none _ _)); intro v474 w4 ho5 hb hg_ hnew_; clear hg_ hnew_; (first | rw [← Ny473.out] at ho5 | (simp only [Int.reduceToNat] at ho5; rw [← Ny473.out] at ho5)); have n0_ := Aside0.mk (Kd.S_elder' (by (with_reducible repeat (first | apply Kd.S_alloc | apply Kd.S_drewN | apply Kd.S_drew)); exact HO469.out) (Kd.R_base ho5) hb); have n1_ := Aside0.mk (Kd.S_elder' (by (with_reducible repeat (first | apply Kd.S_alloc | apply Kd.S_drewN | apply Kd.S_drew)); exact HO472.out) (Kd.R_base ho5) hb); have n2_ := Aside0.mk (Kd.R_lower ho5 (below_size (by repeat (first | (with_reducible first | exact HB.out | apply below_alloc | apply pw_below_drewN | apply below_drew1) | exact HB.out)))); have n3_ := Aside0.mk (below_step (by repeat (first | (with_reducible first | exact HB.out | apply below_alloc | apply pw_below_drewN | apply below_drew1) | exact HB.out)) hb); clear HO469; clear HO472; clear HB; have HO469 := n0_; have HO472 := n1_; have HO475 := n2_; have HB := n3_; clear n0_ n1_ n2_ n3_; clear hb ho5) | ((with_reducible refine gate_dst (N := 3) rfl ?_); refine box_event ?hg (N := 3) ?hd (cs := #[.int .i64 0, .slice none 0 0, .slice none 0 0]) (t := 50) ?hr ?_; (case hd => rfl); (case hg => rfl); (case hr => first | (go_simp; done) | (go_simp; rfl)); intro gb476 hg w6 hbox hb; have n0_ := Aside0.mk (Kd.S_below (by (with_reducible repeat (first | apply Kd.S_alloc | apply Kd.S_drewN | apply Kd.S_drew)); exact HO469.out) hb); have n1_ := Aside0.mk (Kd.S_below (by (with_reducible repeat (first | apply Kd.S_alloc | apply Kd.S_drewN | apply Kd.S_drew)); exact HO472.out) hb); have n2_ := Aside0.mk (Kd.R_below (by (with_reducible repeat (first | apply Kd.R_alloc | apply Kd.R_drewN | apply Kd.R_drew)); exact HO475.out) hb); have n3_ := Aside0.mk (below_step (by repeat (first | (with_reducible first | exact HB.out | apply below_alloc | apply pw_below_drewN | apply below_drew1) | exact HB.out)) hb); have n4_ := Aside0.mk (hbox); have n5_ := Aside0.mk ((by rw [hg]; exact (below_size (by repeat (first | (with_reducible first | exact HB.out | apply below_alloc | apply pw_below_drewN | apply below_drew1) | exact HB.out))) : w.heap.size ≤ gb476)); have n6_ := Aside0.mk ((by rw [hg]; exact (below_size (by repeat (first | (with_reducible first | exact HB.out | apply below_alloc | apply pw_below_drewN | apply below_drew1) | exact HB.out))) : w.heap.size ≤ gb476)); clear HO469; clear HO472; clear HO475; clear HB; have HO469 := n0_; have HO472 := n1_; have HO475 := n2_; have HB := n3_; have BK476 := n4_; have GW476 := n5_; have GE476 := n6_; clear n0_ n1_ n2_ n3_ n4_ n5_ n6_; clear hb hbox hg; have hcz7_0 : w6.cell? ⟨gb476, 0, none⟩ = some (.int .i64 0) := (blk_cell BK476.out 0).trans rfl; have hcz7_1 : w6.cell? ⟨gb476, 1, none⟩ = some (.slice none 0 0) := (blk_cell BK476.out 1).trans rfl; have hcz7_2 : w6.cell? ⟨gb476, 2, none⟩ = some (.slice none 0 0) := (blk_cell BK476.out 2).trans rfl; have hfz7_0 := blk_frozen BK476.out 0; have hfz7_1 := blk_frozen BK476.out 1; have hfz7_2 := blk_frozen BK476.out 2; obtain ⟨Ao8, co8, eo8⟩ := Kd.S_slice HO469.out; subst eo8; obtain ⟨Ao9, co9, eo9⟩ := Kd.S_slice HO472.out; subst eo9))
 go_loopg [4, 14] k (fun kq v4 v14 w' => ∃ (x4_1 : List Int) (x14_1 : Int), v14 = .int .i64 x14_1 ∧ Aside0 (impl_pattern.l0 kq x4_1 (wrap64 (2 * (l0.length : Int))) x14_1 t466 t467 t470 = some r) ∧ Aside0 (kq ≤ k) ∧ Aside0 (Kd.R (Kd.int .i64) 3 w' w.heap.size (fun _ => True) v4 x4_1) ∧ Aside0 (Kd.S (Kd.slice 3 (Kd.int .i64)) 28 w' w.heap.size (fun k_ => some k_ ≠ (v4 : Value).ownBlock ∧ some k_ ≠ ((.slice Ao9 t470.length co9) : Value).ownBlock) (.slice Ao8 t467.length co8) t467) ∧ Aside0 (Kd.S (Kd.slice 3 (Kd.int .i64)) 28 w' w.heap.size (fun k_ => some k_ ≠ (v4 : Value).ownBlock ∧ some k_ ≠ ((.slice Ao8 t467.length co8) : Value).ownBlock) (.slice Ao9 t470.length co9) t470) ∧ Aside0 (w'.heap[gb476]? = some (.cells #[.int .i64 t466, (.slice Ao8 t467.length co8), (.slice Ao9 t470.length co9)] 50 (0, 0))) ∧ Aside0 (Below w.heap.size w w'))
 case atStart => exact ⟨(y473), (0), (by first | rfl | (simp; done) | (simp [*]; done)), H', ⟨Nat.le_refl _⟩, ⟨by (with_reducible repeat (first | apply Kd.R_alloc | apply Kd.R_drewN | apply Kd.R_drew)); exact Kd.R_mono (Kd.R_far (p := ⟨gb476, 2, none⟩) (Kd.R_far (p := ⟨gb476, 1, none⟩) (Kd.R_far (p := ⟨gb476, 0, none⟩) (Kd.R_types HO475.out BK476.out (by decide)) (fun _ hk => hk.2) (.int .i64 t466)) (fun _ hk => hk.2) (.slice Ao8 t467.length co8)) (fun _ hk => hk.2) (.slice Ao9 t470.length co9)) (fun _ hk => trivial)⟩, ⟨by (with_reducible repeat (first | apply Kd.S_alloc | apply Kd.S_drewN | apply Kd.S_drew)); exact Kd.S_mono (Kd.S_far (p := ⟨gb476, 2, none⟩) (Kd.S_far (p := ⟨gb476, 1, none⟩) (Kd.S_far (p := ⟨gb476, 0, none⟩) (Kd.S_types HO469.out BK476.out (by decide)) (fun _ hk => hk.2) (.int .i64 t466)) (fun _ hk => hk.2) (.slice Ao8 t467.length co8)) (fun _ hk => hk.2) (.slice Ao9 t470.length co9)) (fun _ hk => ⟨hk.1.2, hk.1.1⟩)⟩, ⟨by (with_reducible repeat (first | apply Kd.S_alloc | apply Kd.S_drewN | apply Kd.S_drew)); exact Kd.S_mono (Kd.S_far (p := ⟨gb476, 2, none⟩) (Kd.S_far (p := ⟨gb476, 1, none⟩) (Kd.S_far (p := ⟨gb476, 0, none⟩) (Kd.S_types HO472.out BK476.out (by decide)) (fun _ hk => hk.2) (.int .i64 t466)) (fun _ hk => hk.2) (.slice Ao8 t467.length co8)) (fun _ hk => hk.2) (.slice Ao9 t470.length co9)) (fun _ hk => ⟨hk.1.2, hk.1.1⟩)⟩, ⟨by (with_reducible repeat (first | refine blk_drewN ?_ _ | refine blk_drew ?_ | refine blk_alloc ?_ _)); refine blk_put (cs := #[.int .i64 t466, .slice Ao8 t467.length co8, .slice none 0 0]) ?_ 2 _ rfl; (with_reducible repeat (first | refine blk_drewN ?_ _ | refine blk_drew ?_ | refine blk_alloc ?_ _)); refine blk_put (cs := #[.int .i64 t466, .slice none 0 0, .slice none 0 0]) ?_ 1 _ rfl; (with_reducible repeat (first | refine blk_drewN ?_ _ | refine blk_drew ?_ | refine blk_alloc ?_ _)); refine blk_put (cs := #[.int .i64 0, .slice none 0 0, .slice none 0 0]) ?_ 0 _ rfl; (with_reducible repeat (first | refine blk_drewN ?_ _ | refine blk_drew ?_ | refine blk_alloc ?_ _)); exact BK476.out⟩, ⟨by repeat (first | (with_reducible first | exact HB.out | apply below_alloc | apply pw_below_drewN | apply below_drew1 | refine below_set ?_ GE476.out) | exact HB.out)⟩⟩
 case round =>
  clear H'
  try clear p2
  try clear c4
  try clear c5
  try clear p6
  try clear hcz7_0
  try clear hcz7_1
  try clear hcz7_2
  try clear hfz7_0
  try clear hfz7_1
  try clear hfz7_2
  obtain ⟨x4_1, x14_1, rfl, HA, HK1, HO_4, HO_477001, HO_477002, BK476, HB⟩ := hrel
  cases gk with
  | zero => exact absurd HA.out (by simp [impl_pattern.l0])
  | succ k1 =>
   have H := HA.out
   clear HA
   simp only [impl_pattern.l0] at H
   by_cases c10 : x14_1 < (wrap64 (2 * (l0.length : Int)))
   ·rw [if_pos c10] at H
    have c10b0 : decide (x14_1 < (wrap64 (2 * (l0.length : Int)))) = true := decide_eq_true c10
    clear c10
    replace H := Option.bind_eq_some_iff.mp H
    obtain ⟨⟨t477, t480⟩, A110, H⟩ := H
    replace H : (if x4_1.length < 17592186044416 then (impl_pattern.l0 k1 (x4_1 ++ [t480]) (wrap64 (2 * (l0.length : Int))) (wrap64 (x14_1 + 1)) t466 t467 t470) else (none)) = some r := H
    have A11 := Aside0.mk A110
    clear A110
    by_cases c12 : x4_1.length < 17592186044416
    ·rw [if_pos c12] at H
     have LMc12 := Aside0.mk c12
     clear c12
     obtain ⟨y481, hy481⟩ : ∃ y_ : List Int, y_ = (x4_1 ++ [t480]) := ⟨_, rfl⟩
     replace H : (impl_pattern.l0 k1 y481 (wrap64 (2 * (l0.length : Int))) (wrap64 (x14_1 + 1)) t466 t467 t470) = some r := by first | (rw [hy481]; with_reducible exact H) | (have H2_ := (Option.bind_some _ _).symm.trans H; rw [hy481]; with_reducible exact H2_) | (have H2_ := (Option.bind_some _ _).symm.trans H; with_reducible exact H2_) | with_reducible exact H | (rw [hy481]; exact H) | exact H
     have Ny481 := Aside0.mk hy481
     clear hy481
     have H' := Aside0.mk H
     clear H
     have hcz13_0 : wr.cell? ⟨gb476, 0, none⟩ = some (.int .i64 t466) := (blk_cell BK476.out 0).trans rfl
     have hcz13_1 : wr.cell? ⟨gb476, 1, none⟩ = some (.slice Ao8 t467.length co8) := (blk_cell BK476.out 1).trans rfl
     have hcz13_2 : wr.cell? ⟨gb476, 2, none⟩ = some (.slice Ao9 t470.length co9) := (blk_cell BK476.out 2).trans rfl
     have hfz13_0 := blk_frozen BK476.out 0
     have hfz13_1 := blk_frozen BK476.out 1
     have hfz13_2 := blk_frozen BK476.out 2
     go_wp2_with (first | ((with_reducible refine gate_callee (f := 47) rfl ?_); refine goesL_ (some 20) rfl rfl Try.func47 (by kernel_rfl) rfl #[.agg #[.int .i64 t466, .slice Ao8 t467.length co8, .slice Ao9 t470.length co9], .int .i64 x14_1] rfl (by (try simp only [List.map_toArray, List.map_cons, List.map_nil]); first | done | rfl | (simp only [List.length_drop, List.length_take]; rfl)) ?_; (with_reducible refine (impl_Loops_fromEnd.calls k1 t466 _ _ t467 _ _ t470 x14_1 t477 t480 _ ?side1 ?side2 ?side3 ?side4 A11.out).mono ?_); (case side1 => repeat (first | exact (Kd.S_reads' HO_477001.out).2.2 | (with_reducible refine Kd.C_alloc ?_ _) | (with_reducible refine Kd.C_drewN ?_ _) | (with_reducible refine Kd.C_drew ?_))); (case side2 => exact (Kd.S_reads' HO_477001.out).2.1); (case side3 => repeat (first | exact (Kd.S_reads' HO_477002.out).2.2 | (with_reducible refine Kd.C_alloc ?_ _) | (with_reducible refine Kd.C_drewN ?_ _) | (with_reducible refine Kd.C_drew ?_))); (case side4 => exact (Kd.S_reads' HO_477002.out).2.1); rintro e w14 ⟨v478, rfl, ho0, hb⟩; refine ⟨_, rfl, ?_⟩; have n0_ := Aside0.mk (Kd.R_below (by (with_reducible repeat (first | apply Kd.R_alloc | apply Kd.R_drewN | apply Kd.R_drew)); exact HO_4.out) hb); have n1_ := Aside0.mk (Kd.S_elder' (by (with_reducible repeat (first | apply Kd.S_alloc | apply Kd.S_drewN | apply Kd.S_drew)); exact HO_477001.out) (Kd.S_base ho0) hb); have n2_ := Aside0.mk (Kd.S_elder' (by (with_reducible repeat (first | apply Kd.S_alloc | apply Kd.S_drewN | apply Kd.S_drew)); exact HO_477002.out) (Kd.S_base ho0) hb); have n3_ := Aside0.mk (Kd.S_lower (Kd.S_new' (Kd.S_new' (Kd.S_new' ho0 (Kd.R_lt (by (with_reducible repeat (first | apply Kd.R_alloc | apply Kd.R_drewN | apply Kd.R_drew)); exact HO_4.out))) (Kd.S_lt (by (with_reducible repeat (first | apply Kd.S_alloc | apply Kd.S_drewN | apply Kd.S_drew)); exact HO_477001.out))) (Kd.S_lt (by (with_reducible repeat (first | apply Kd.S_alloc | apply Kd.S_drewN | apply Kd.S_drew)); exact HO_477002.out))) (below_size (by repeat (first | (with_reducible first | exact HB.out | apply below_alloc | apply pw_below_drewN | apply below_drew1 | refine below_set ?_ GE476.out) | exact HB.out)))); have n4_ := Aside0.mk (blk_below (g := gb476) (o := .cells #[.int .i64 t466, .slice Ao8 t467.length co8, .slice Ao9 t470.length co9] 50 (0, 0)) (by (with_reducible repeat (first | refine blk_drewN ?_ _ | refine blk_drew ?_ | refine blk_alloc ?_ _)); exact BK476.out) hb); have n5_ := Aside0.mk (below_step (by repeat (first | (with_reducible first | exact HB.out | apply below_alloc | apply pw_below_drewN | apply below_drew1 | refine below_set ?_ GE476.out) | exact HB.out)) hb); clear HO_4; clear HO_477001; clear HO_477002; clear BK476; clear HB; have HO_4 := n0_; have HO_477001 := n1_; have HO_477002 := n2_; have HO479 := n3_; have BK476 := n4_; have HB := n5_; clear n0_ n1_ n2_ n3_ n4_ n5_; (try clear hb); (try clear hb2); (try clear hk); (try clear hi); (try clear ho0)) | ((with_reducible refine gate_builtin (b := .append) (xs := #[.tmp 23, .tmp 25]) rfl ?_); at_builtin; refine Kd.R_append (Kd.int .i64) (w0 := w) w.heap.size rfl (.tmp 23) (.tmp 25) 28 3 (.int .i64 0) 8 rfl Try.underlying28 info3 rfl (by decide) (by omega) u4 x4_1 t480 [.int .i64 t480] (fun _ => True) (fun _ => False) rfl rfl ?aP (fun _ hk => hk.elim) ?aF ?aO ?aB ?aS ?aL ?_; (case aP => exact rfl); (case aB => exact (by repeat (first | (with_reducible first | exact HB.out | apply below_alloc | apply pw_below_drewN | apply below_drew1 | refine below_set ?_ GE476.out) | exact HB.out))); (case aF => exact (fun _ _ => trivial)); (case aO => exact (by (with_reducible repeat (first | apply Kd.R_alloc | apply Kd.R_drewN | apply Kd.R_drew)); exact HO_4.out)); (case aS => exact (below_size (by repeat (first | (with_reducible first | exact HB.out | apply below_alloc | apply pw_below_drewN | apply below_drew1 | refine below_set ?_ GE476.out) | exact HB.out)))); (case aL => have := LMc12.out; omega); intro v482 w15 ho hb hg hat; rw [← Ny481.out] at ho; have n0_ := Aside0.mk (Kd.S_after (ok := (fun k_ => some k_ ≠ (.slice Ao9 t470.length co9 : Value).ownBlock ∧ some k_ ≠ (v478 : Value).ownBlock)) (by (with_reducible repeat (first | apply Kd.S_alloc | apply Kd.S_drewN | apply Kd.S_drew)); exact Kd.S_mono HO_477001.out (fun _ hk => ⟨⟨hk.1.2, hk.2⟩, hk.1.1⟩)) hg hat); have n1_ := Aside0.mk (Kd.S_after (ok := (fun k_ => some k_ ≠ (.slice Ao8 t467.length co8 : Value).ownBlock ∧ some k_ ≠ (v478 : Value).ownBlock)) (by (with_reducible repeat (first | apply Kd.S_alloc | apply Kd.S_drewN | apply Kd.S_drew)); exact Kd.S_mono HO_477002.out (fun _ hk => ⟨⟨hk.1.2, hk.2⟩, hk.1.1⟩)) hg hat); have n2_ := Aside0.mk (blk_grown (g := gb476) (o := .cells #[.int .i64 t466, .slice Ao8 t467.length co8, .slice Ao9 t470.length co9] 50 (0, 0)) (by (with_reducible repeat (first | refine blk_drewN ?_ _ | refine blk_drew ?_ | refine blk_alloc ?_ _)); exact BK476.out) hg (Kd.R_ne HO_4.out BK476.out (by decide))); have n3_ := Aside0.mk (Kd.S_after (ok := (fun k_ => some k_ ≠ (.slice Ao8 t467.length co8 : Value).ownBlock ∧ some k_ ≠ (.slice Ao9 t470.length co9 : Value).ownBlock)) (by (with_reducible repeat (first | apply Kd.S_alloc | apply Kd.S_drewN | apply Kd.S_drew)); exact Kd.S_mono HO479.out (fun _ hk => ⟨⟨hk.1.2, hk.2⟩, hk.1.1.2⟩)) hg hat); have n4_ := Aside0.mk (hb); have n5_ := Aside0.mk (ho); clear HO_477001; clear HO_477002; clear BK476; clear HO479; clear HB; clear HO_4; have HO_477001 := n0_; have HO_477002 := n1_; have BK476 := n2_; have HO479 := n3_; have HB := n4_; have HO483 := n5_; clear n0_ n1_ n2_ n3_ n4_ n5_; clear ho hb hg hat))
     go_roundg k1
     case measure => have := HK1.out; omega
     case rel => exact ⟨(y481), (wrap64 (x14_1 + 1)), (by first | rfl | (simp; done) | (simp [*]; done)), H', ⟨by have := HK1.out; omega⟩, ⟨by (with_reducible repeat (first | apply Kd.R_alloc | apply Kd.R_drewN | apply Kd.R_drew)); exact HO483.out⟩, ⟨by (with_reducible repeat (first | apply Kd.S_alloc | apply Kd.S_drewN | apply Kd.S_drew)); exact Kd.S_mono HO_477001.out (fun _ hk => ⟨hk.2, hk.1.1⟩)⟩, ⟨by (with_reducible repeat (first | apply Kd.S_alloc | apply Kd.S_drewN | apply Kd.S_drew)); exact Kd.S_mono HO_477002.out (fun _ hk => ⟨hk.2, hk.1.1⟩)⟩, ⟨by (with_reducible repeat (first | refine blk_drewN ?_ _ | refine blk_drew ?_ | refine blk_alloc ?_ _)); exact BK476.out⟩, ⟨by repeat (first | (with_reducible first | exact HB.out | apply below_alloc | apply pw_below_drewN | apply below_drew1 | refine below_set ?_ GE476.out) | exact HB.out)⟩⟩
    ·rw [if_neg c12] at H
     exact absurd H (by simp)
   ·rw [if_neg c10] at H
    have c10b0 : decide (x14_1 < (wrap64 (2 * (l0.length : Int)))) = false := decide_eq_false c10
    clear c10
    obtain rfl := Option.some.inj H
    go_wp2
    go_ret
    exact ⟨_, by first | rfl | (simp [errW_none, errW_some] <;> rfl) | (simp [*, errW_none, errW_some] <;> rfl), by (with_reducible repeat (first | apply Kd.R_alloc | apply Kd.R_drewN | apply Kd.R_drew)); exact HO_4.out, by repeat (first | (with_reducible first | exact HB.out | apply below_alloc | apply pw_below_drewN | apply below_drew1 | refine below_set ?_ GE476.out) | exact HB.out)⟩

end Go.Proofs.Ythbkjaieenochaa.P

namespace Go.Proofs.Ythbkjaieenochaa.L
set_option linter.unusedVariables false
open Go.RowKit Go.Proofs.Ythbkjaieenochaa Go.Proofs.Ythbkjaieenochaa.P Go.Proofs.Ythbkjaieenochaa.LN Go.Proofs.YthbkjaieenochaaW.PrintWords Go.Proofs.YthbkjaieenochaaW.PrintLast Go.Proofs.YthbkjaieenochaaW.PrintMore
set_option maxRecDepth 100000

/-- A line that begins at the border does not come back. -/
theorem wy_open {a d : Int → Int → Int} {n : Int} (hg : LN.Good a d n) (f : St) (hf : ¬ ing n (mi f.1 f.2.2) (mj f.2.1 f.2.2) = true) : ∀ (k : Nat) (x : St) (r : List (List Int) × Int × Bool), okS a d n x → wy a d n f k x = some r → r.2.2 = false := by
 intro k
 induction k with
 | zero => intro x r _ h; simp [wy] at h
 | succ k ih =>
  intro x r hx h
  rw [wy] at h
  by_cases hi : ing n (LN.step a d x).1 (LN.step a d x).2.1 = true
  ·rw [if_pos hi] at h
   obtain ⟨s1, s2⟩ := step_ok hg hx hi
   by_cases he : LN.step a d x = f
   ·exfalso
    rw [he] at s2
    have h1 : (bck a d f).1 = mi f.1 f.2.2 := rfl
    have h2 : (bck a d f).2.1 = mj f.2.1 f.2.2 := rfl
    rw [s2] at h1 h2
    exact hf (by rw [← h1, ← h2]; exact hx.1)
   ·rw [if_neg he] at h
    obtain ⟨q, hq, rfl⟩ := Option.map_eq_some_iff.1 h
    exact ih _ q s1 hq
  ·rw [if_neg hi] at h
   obtain rfl := Option.some.inj h
   rfl
/-- An end's edge leads out of the square. -/
theorem endsP_out {n : Nat} {e : List Int} (he : endsP n e = true) : ¬ ing n (mi (rd e 1) (rd e 0)) (mj (rd e 2) (rd e 0)) = true := by
 unfold endsP at he
 split at he
 case h_2 => cases he
 rename_i s i j
 show ¬ ing n (mi i s) (mj j s) = true
 rw [Bool.and_eq_true] at he
 obtain ⟨hi, he⟩ := he
 obtain ⟨g1, g2, g3, g4⟩ := ing_iff.1 hi
 simp only [Bool.or_eq_true, Bool.and_eq_true, beq_iff_eq] at he
 rw [ing_iff]
 rcases he with ⟨rfl, hb, hc⟩ | ⟨rfl, hb, hc⟩ | ⟨rfl, hb, hc⟩ | ⟨rfl, hb, hc⟩ <;> simp only [mi, mj] <;> simp <;> omega
/-- A border edge that is drawn is an end. -/
theorem endsP_of {m : List (List Int)} (hs : isSign m = true) {i j s : Int} (hi : ing m.length i j = true) (h0 : 0 ≤ s) (h1 : s ≤ 3) (hd : drw (r2 (acM m)) (r2 (dnM m)) i j s = true) (ho : ing m.length (mi i s) (mj j s) = false) : endsP m.length [s, i, j] = true := by
 obtain ⟨k1, k2, k3, k4⟩ := isSign_facts hs
 obtain ⟨g1, g2, g3, g4⟩ := ing_iff.1 hi
 obtain ⟨i, rfl⟩ := Int.eq_ofNat_of_zero_le g1
 obtain ⟨j, rfl⟩ := Int.eq_ofNat_of_zero_le g3
 have hin : i < m.length := by omega
 have hjn : j < m.length := by omega
 have ho2 : ¬ ing m.length (mi i s) (mj j s) = true := by rw [ho]; decide
 rw [ing_iff] at ho2
 unfold endsP
 simp only [hi, Bool.true_and, Bool.or_eq_true, Bool.and_eq_true, beq_iff_eq]
 rcases four h0 h1 with rfl | rfl | rfl | rfl
 ·simp only [mi, mj] at ho2
  obtain rfl : i = 0 := by simp at ho2; omega
  rw [drw_0 m hin hjn, beq_iff_eq] at hd
  simp only [ps] at hd
  exact .inl ⟨rfl, rfl, by omega⟩
 ·simp only [mi, mj] at ho2
  have hj1 : j + 1 = m.length := by simp at ho2; omega
  rw [drw_1 m hin hjn, beq_iff_eq] at hd
  have := ps_all (k4 i hin).1
  rw [k3 i hin] at this
  rw [hj1, this] at hd
  exact .inr (.inl ⟨rfl, by omega, by omega⟩)
 ·simp only [mi, mj] at ho2
  have hi1 : i + 1 = m.length := by simp at ho2; omega
  rw [drw_2 m hin hjn, beq_iff_eq] at hd
  have := ps_all (k4 j hjn).2
  rw [colL_length] at this
  rw [hi1, this] at hd
  exact .inr (.inr (.inl ⟨rfl, by omega, by omega⟩))
 ·simp only [mi, mj] at ho2
  obtain rfl : j = 0 := by simp at ho2; omega
  rw [drw_3 m hin hjn, beq_iff_eq] at hd
  simp only [ps] at hd
  exact .inr (.inr (.inr ⟨rfl, rfl, by omega⟩))
/-- Is an end the one at side s of the point l? -/
def ixHit (f : List Int) (s : Int) (l : List Int) : Bool := rd f 0 == s && (rd f 1 == rd l 0 && rd f 2 == rd l 1)
/-- The indexes of the ends at side s of the point l, of the first k ends. -/
def ixTo (E : List (List Int)) (s : Int) (l : List Int) : Nat → List Int
 | 0 => []
 | k + 1 => ixTo E s l k ++ (if ixHit (E.getD k []) s l = true then [(k : Int)] else [])
theorem ixTo_len (E : List (List Int)) (s : Int) (l : List Int) : ∀ k, (ixTo E s l k).length ≤ k
 | 0 => Nat.le_refl _
 | k + 1 => by
  have := ixTo_len E s l k
  rw [ixTo, List.length_append]
  split <;> simp <;> omega
/-- Each end has its index alone. -/
def oneB (n : Nat) : Bool := (List.range 4).all fun s => (List.range n).all fun i => (List.range n).all fun j => !(endsP n [(s : Int), (i : Int), (j : Int)]) || (ixTo (endsL n) s [(i : Int), (j : Int)] (endsL n).length == [endIx (endsL n) [(s : Int), (i : Int), (j : Int)]])
theorem one_all {n : Nat} (h0 : 1 ≤ n) (h1 : n ≤ 6) : oneB n = true := by
 have e : n = 1 ∨ n = 2 ∨ n = 3 ∨ n = 4 ∨ n = 5 ∨ n = 6 := by omega
 rcases e with rfl | rfl | rfl | rfl | rfl | rfl <;> decide +kernel
theorem one_at {n : Nat} (h0 : 1 ≤ n) (h1 : n ≤ 6) {s i j : Int} (s0 : 0 ≤ s) (s1 : s ≤ 3) (hi : ing n i j = true) (he : endsP n [s, i, j] = true) : ixTo (endsL n) s [i, j] (endsL n).length = [endIx (endsL n) [s, i, j]] := by
 obtain ⟨g1, g2, g3, g4⟩ := ing_iff.1 hi
 obtain ⟨i, rfl⟩ := Int.eq_ofNat_of_zero_le g1
 obtain ⟨j, rfl⟩ := Int.eq_ofNat_of_zero_le g3
 obtain ⟨s, rfl⟩ := Int.eq_ofNat_of_zero_le s0
 have := List.all_eq_true.1 (List.all_eq_true.1 (List.all_eq_true.1 (one_all h0 h1) s (List.mem_range.2 (by omega))) i (List.mem_range.2 (by omega))) j (List.mem_range.2 (by omega))
 rw [he] at this
 simpa using this
/-- The end to which the line from an end leads. -/
def otherOf (m : List (List Int)) (e : List Int) : Int := endIx (endsL m.length) ((lineOf m e).2.1 :: ((lineOf m e).1.getLast?.getD []))
structure LineEnd (m : List (List Int)) (e : List Int) : Prop where
 fo : foV m.length (lineOf m e) = ((lineOf m e).1, otherOf m e)
 ne : 0 < (lineOf m e).1.length
 le : (lineOf m e).1.length ≤ 144
 l2 : ((lineOf m e).1.getLast?.getD []).length = 2
 ix : ixTo (endsL m.length) (lineOf m e).2.1 ((lineOf m e).1.getLast?.getD []) (endsL m.length).length = [otherOf m e]
theorem line_end {m : List (List Int)} (hs : isSign m = true) {e : List Int} (he : endsP m.length e = true) : LineEnd m e := by
 obtain ⟨k1, k2, _, _⟩ := isSign_facts hs
 have hok := (end_ok hs he).2
 have hw := lineOf_ok hs he
 have ho := wy_open (lp_of hs).good (rd e 1, rd e 2, rd e 0) (endsP_out he) 144 _ _ hok hw
 obtain ⟨w1, w2, i, j, w3, w4, w5, w6, w7, w8⟩ := wy_what (lp_of hs).good _ 144 _ _ hok hw
 have hp := endsP_of hs w4 w5 w6 w7 (w8 ho)
 refine ⟨?_, ?_, w1, by rw [w3]; rfl, ?_⟩
 ·unfold foV otherOf
  rw [ho, if_neg (by decide)]
 ·cases hq : (lineOf m e).1 with
  | nil => rw [hq] at w3; simp at w3
  | cons u v => simp
 ·unfold otherOf
  rw [w3]
  exact one_at k1 k2 w5 w6 w4 hp
/-- The pattern. -/
def patM (m : List (List Int)) : List Int := (endsL m.length).map (otherOf m)
theorem patM_take (m : List (List Int)) (i : Nat) (hi : i < (endsL m.length).length) : (patM m).take (i + 1) = (patM m).take i ++ [otherOf m ((endsL m.length).getD i [])] := by
 have hl : i < ((endsL m.length).map (otherOf m)).length := by rw [List.length_map]; exact hi
 unfold patM
 rw [List.take_succ_eq_append_getElem hl, List.getElem_map, List.getD_eq_getElem?_getD, List.getElem?_eq_getElem hi]; rfl
theorem impl_pattern_l0 {m : List (List Int)} (hs : isSign m = true) : ∀ (d i : Nat), i + d = 2 * m.length → Ev (fun k => impl_pattern.l0 k ((patM m).take i) ((2 * m.length : Nat) : Int) i m.length (acM m) (dnM m)) (patM m) := by
 obtain ⟨h1, h2, _, _⟩ := isSign_facts hs
 have hE := ends_all h1 h2
 have hll : (patM m).length = 2 * m.length := by unfold patM; rw [List.length_map, hE.len]
 intro d
 induction d with
 | zero =>
  intro i hi
  refine Ev.step (fun k => by rw [impl_pattern.l0]) ?_
  rw [List.take_of_length_le (by omega)]
  exact Ev.ite_neg (by omega) (Ev.now _)
 | succ d ih =>
  intro i hi
  refine Ev.step (fun k => by rw [impl_pattern.l0]) ?_
  have hl : i < (endsL m.length).length := by rw [hE.len]; omega
  have hnext := ih (i + 1) (by omega)
  rw [patM_take m i hl] at hnext
  refine Ev.ite_pos (by omega) (Ev.bind (fromEnd_ev hs i (by omega)) (Ev.ite_pos (by rw [List.length_take]; omega) ?_))
  rw [(line_end hs (ends_at hE i hl)).fo, wrapS i (by omega)]
  exact hnext
theorem impl_pattern_ev {m : List (List Int)} (hs : isSign m = true) : Ev (fun k => impl_pattern.f k m) (patM m) := by
 obtain ⟨h1, h2, _, _⟩ := isSign_facts hs
 unfold impl_pattern.f
 refine Ev.some_bind (loops_f hs) ?_
 rw [show wrap64 (2 * (m.length : Int)) = ((2 * m.length : Nat) : Int) by unfold wrap64; omega]
 exact impl_pattern_l0 hs (2 * m.length) 0 (by omega)
theorem loPattern_l1 {m : List (List Int)} (hs : isSign m = true) (out : List Int) (ho : out.length ≤ 100) (s : Int) (l : List Int) (hl : l.length = 2) (i : Nat) (hi : i < 100) (R : List Int)
  (hr : Ev (fun k => spec_loPattern.l0 k (endsL m.length) (out ++ ixTo (endsL m.length) s l (endsL m.length).length) (endsL m.length) (endsL m.length).length ((i + 1 : Nat) : Int) m.length (acM m) (dnM m)) R) :
  ∀ (d t : Nat), t + d = (endsL m.length).length → Ev (fun k => spec_loPattern.l1 k (endsL m.length) (out ++ ixTo (endsL m.length) s l t) s l (endsL m.length) (endsL m.length).length i (endsL m.length) (endsL m.length).length t m.length (acM m) (dnM m)) R := by
 obtain ⟨h1, h2, _, _⟩ := isSign_facts hs
 have hE := ends_all h1 h2
 intro d
 induction d with
 | zero =>
  intro t ht
  refine Ev.step (fun k => by rw [spec_loPattern.l1]) ?_
  have ht2 : t = (endsL m.length).length := by omega
  subst ht2
  rw [wrapS i (by omega)]
  exact Ev.ite_neg (by omega) hr
 | succ d ih =>
  intro t ht
  have htl : t < (endsL m.length).length := by omega
  have he3 := (end_ok hs (ends_at hE t htl)).1
  have hnext := ih (t + 1) (by omega)
  have hil := ixTo_len (endsL m.length) s l t
  have hEl := hE.len
  refine Ev.step (fun k => by rw [spec_loPattern.l1]) ?_
  refine Ev.ite_pos (by omega) (Ev.ite_pos (by omega) (Ev.ite_pos (by omega) ?_))
  rw [rd1_get, wrapS t (by omega)]
  obtain ⟨f, hf⟩ : ∃ f, f = (endsL m.length).getD t [] := ⟨_, rfl⟩
  rw [ixTo, ← hf] at hnext
  rw [← hf] at he3 ⊢
  have hno : ixHit f s l = false → Ev (fun k => spec_loPattern.l1 k (endsL m.length) (out ++ ixTo (endsL m.length) s l t) s l (endsL m.length) (endsL m.length).length i (endsL m.length) (endsL m.length).length ((t + 1 : Nat) : Int) m.length (acM m) (dnM m)) R := by
   intro h
   rw [h, if_neg (by decide), List.append_nil] at hnext
   exact hnext
  refine Ev.ite_pos (by omega) ?_
  by_cases c0 : rd f 0 = s
  ·refine Ev.ite_pos c0 (Ev.ite_pos (by omega) (Ev.ite_pos (by omega) ?_))
   by_cases c1 : rd f 1 = rd l 0
   ·refine Ev.ite_pos c1 (Ev.ite_pos (by omega) (Ev.ite_pos (by omega) ?_))
    by_cases c2 : rd f 2 = rd l 1
    ·refine Ev.ite_pos c2 (Ev.ite_pos (by rw [List.length_append]; omega) ?_)
     rw [show ixHit f s l = true by unfold ixHit; rw [c0, c1, c2]; simp, if_pos rfl, ← List.append_assoc] at hnext
     exact hnext
    ·exact Ev.ite_neg c2 (hno (by unfold ixHit; simp [c2]))
   ·exact Ev.ite_neg c1 (hno (by unfold ixHit; simp [c1]))
  ·exact Ev.ite_neg c0 (hno (by unfold ixHit; simp [c0]))
theorem last_rd (l : List (List Int)) (h : 0 < l.length) (h2 : l.length ≤ 1000) : rd_L1 l (wrap64 ((l.length : Int) - 1)) = l.getLast?.getD [] := by
 rw [show wrap64 ((l.length : Int) - 1) = ((l.length - 1 : Nat) : Int) by unfold wrap64; omega, rd1_get, List.getLast?_eq_getElem?, List.getD_eq_getElem?_getD]
theorem loPattern_l0 {m : List (List Int)} (hs : isSign m = true) : ∀ (d i : Nat), i + d = (endsL m.length).length → Ev (fun k => spec_loPattern.l0 k (endsL m.length) ((patM m).take i) (endsL m.length) (endsL m.length).length i m.length (acM m) (dnM m)) (patM m) := by
 obtain ⟨h1, h2, _, _⟩ := isSign_facts hs
 have hE := ends_all h1 h2
 have hEl := hE.len
 have hll : (patM m).length = 2 * m.length := by unfold patM; rw [List.length_map, hE.len]
 intro d
 induction d with
 | zero =>
  intro i hi
  refine Ev.step (fun k => by rw [spec_loPattern.l0]) ?_
  rw [List.take_of_length_le (by omega)]
  exact Ev.ite_neg (by omega) (Ev.now _)
 | succ d ih =>
  intro i hi
  have hl : i < (endsL m.length).length := by omega
  have he := ends_at hE i hl
  have h3 := (end_ok hs he).1
  have hle := line_end hs he
  have hnext := ih (i + 1) (by omega)
  rw [patM_take m i hl, ← hle.ix] at hnext
  refine Ev.step (fun k => by rw [spec_loPattern.l0]) ?_
  refine Ev.ite_pos (by omega) (Ev.ite_pos (by omega) (Ev.ite_pos (by omega) ?_))
  rw [rd1_get]
  refine Ev.ite_pos (by omega) (Ev.ite_pos (by omega) (Ev.ite_pos (by omega) ?_))
  have hne := hle.ne
  have hle2 := hle.le
  refine Ev.bind (loWay_ev (lp_of hs) (bits_of m) _ _ _ _ (end_ok hs he).2 (lineOf_ok hs he)) (Ev.ite_pos (by dsimp only; unfold wrap64; omega) (Ev.ite_pos (by dsimp only; unfold wrap64; omega) ?_))
  rw [last_rd _ hne (by omega)]
  have := loPattern_l1 hs ((patM m).take i) (by rw [List.length_take]; omega) (lineOf m ((endsL m.length).getD i [])).2.1 _ hle.l2 i (by omega) _ hnext (endsL m.length).length 0 (by omega)
  rw [ixTo, List.append_nil] at this
  exact this
theorem loPattern_ev {m : List (List Int)} (hs : isSign m = true) : Ev (fun k => spec_loPattern.f k m.length (acM m) (dnM m)) (patM m) := by
 obtain ⟨h1, h2, _, _⟩ := isSign_facts hs
 unfold spec_loPattern.f
 exact Ev.bind (ends_ev2 (ends_all h1 h2)) (loPattern_l0 hs (endsL m.length).length 0 (by omega))
end Go.Proofs.Ythbkjaieenochaa.L

namespace Go.Proofs.Ythbkjaieenochaa.L
open Go.RowKit Go.Proofs.Ythbkjaieenochaa Go.Proofs.Ythbkjaieenochaa.P Go.Proofs.YthbkjaieenochaaW.PrintWords Go.Proofs.YthbkjaieenochaaW.PrintLast Go.Proofs.YthbkjaieenochaaW.PrintMore
set_option linter.unusedVariables false
set_option linter.unusedSimpArgs false

/-- The rank of a pattern in a list. -/
def rkOf (L : List (List Int)) (p : List Int) : Int := idxOf (fun q => decide (q = p)) L
theorem rankOf_1.calls (p x : List Int) (A : Option Addr) (c g : Nat) (Ap : Option Addr) (cp : Nat) (W : World) (hx : W.cell? ⟨g, 0, none⟩ = some (.slice Ap p.length cp)) (hp : Kd.C (Kd.int .i64) W Ap p.length p) (hpc : p.length ≤ cp) (hC : Kd.C (Kd.int .i64) W A x.length x) (hc : x.length ≤ c) (hl : x.length ≤ 1000) :
  Gives Try.prog 99 #[.slice A x.length c, .pointer (some ⟨g, 0, none⟩)] W (.bool (decide (x = p))) := by
 unfold Gives
 have HC := Aside0.mk (slices_Equal_int_int.calls 1001 A c x Ap cp p _ W hC hc hp hpc (eqN x p hl))
 obtain ⟨b, hb⟩ : ∃ b, b = decide (x = p) := ⟨_, rfl⟩
 rw [← hb] at HC ⊢
 clear hp hC hb
 go_enter Try.func99, Try.ntmps99
 go_wp2_with (go_at_call 66; refine HC.out.mono ?_; rintro e w' ⟨rfl, hd⟩; have hb := hd.below; clear hd)
 go_ret
 exact ⟨rfl, hb⟩
theorem impl_rankOf.callsG (L : List (List Int)) (p : List Int) (AL : Option Addr) (cL : Nat) (Ap : Option Addr) (cp : Nat) (W : World) (hL : Kd.C (Kd.slice 3 (Kd.int .i64)) W AL L.length L) (hcL : L.length ≤ cL) (hp : Kd.C (Kd.int .i64) W Ap p.length p) (hpc : p.length ≤ cp) (hl : ∀ x ∈ L, x.length ≤ 1000) :
  Calls Try.prog 70 #[.slice AL L.length cL, .slice Ap p.length cp] W fun e w' => e = .returned (.int .i64 (rkOf L p)) ∧ Below W.heap.size W w' := by
 have eg : ∀ args w, (callFunc 99 args).run Try.prog w = .ok (.enter 99 args) w := enters_of Try.func99 (by kernel_rfl) rfl
 have hB2 : Below W.heap.size W (W.alloc (.cells #[.slice Ap p.length cp] 28)) := below_alloc (Below.refl _ _) _
 have hx : (W.alloc (.cells #[.slice Ap p.length cp] 28)).cell? ⟨W.heap.size, 0, none⟩ = some (.slice Ap p.length cp) := by rw [World.cell?_alloc_at _ _ _ _ rfl]; rfl
 have HCO := Aside0.mk (slices_IndexFunc_rows.calls 99 #[.pointer (some ⟨W.heap.size, 0, none⟩)] (fun q => decide (q = p)) AL cL L (W.alloc (.cells #[.slice Ap p.length cp] 28)) eg
  (fun x A c W' hm hb hcx hc => rankOf_1.calls p x A c _ Ap cp W' (pw_cell_below hb hx) (Kd.C_below (Kd.C_below hp hB2) hb) hpc hcx hc (hl x hm)) (Kd.C_below hL hB2) hcL)
 have HB := Aside0.mk hB2
 have HE := Aside0.mk (show rkOf L p = idxOf (fun q => decide (q = p)) L from rfl)
 obtain ⟨q, hq⟩ : ∃ q, q = idxOf (fun q => decide (q = p)) L := ⟨_, rfl⟩
 rw [← hq] at HCO HE
 rw [HE.out]
 clear hL hp hB2 hx hq hl
 go_enter Try.func70, Try.ntmps70
 go_wp2_with (go_at_call 88; refine HCO.out.mono ?_; rintro e w' ⟨rfl, hb⟩; have HB2 := Aside0.mk hb; clear hb)
 go_ret
 exact ⟨rfl, below_then HB.out HB.out.size HB2.out⟩
set_option maxHeartbeats 2000000 in
theorem cbp_1.calls (L T : List (List Int)) (hs : isSign T = true) (A : Option Addr) (c g : Nat) (AL : Option Addr) (cL : Nat) (W : World) (hx : W.cell? ⟨g, 0, none⟩ = some (.slice AL L.length cL)) (hL : Kd.C (Kd.slice 3 (Kd.int .i64)) W AL L.length L) (hcL : L.length ≤ cL) (hl : ∀ x ∈ L, x.length ≤ 1000) (hC : Kd.C (Kd.slice 3 (Kd.int .i64)) W A T.length T) (hc : T.length ≤ c) :
  Calls Try.prog 69 (#[.slice A T.length c] ++ #[.pointer (some ⟨g, 0, none⟩)]) W fun e w' => e = .returned (.int .i64 (rkOf L (patM T))) ∧ Below W.heap.size W w' := by
 obtain ⟨k, hk⟩ := (impl_pattern_ev hs).rounds
 have HP := Aside0.mk (fun W' (hb : Below W.heap.size W W') => impl_pattern.calls k A c T _ W' (Kd.C_below hC hb) hc hk)
 obtain ⟨p, hp⟩ : ∃ p, p = patM T := ⟨_, rfl⟩
 rw [← hp] at HP ⊢
 have HR := Aside0.mk (fun W' Ap cp (hb : Below W.heap.size W W') h1 h2 => impl_rankOf.callsG L p AL cL Ap cp W' (Kd.C_below hL hb) hcL h1 h2 hl)
 have HX := Aside0.mk hx
 obtain ⟨q, hq⟩ : ∃ q, q = rkOf L p := ⟨_, rfl⟩
 rw [← hq] at HR ⊢
 clear hs hL hC hk hp hq hl
 go_enter Try.func69, Try.ntmps69
 go_wp2
 go_region_held3 (fun Wq => Wq.cell? ⟨g, 0, none⟩ = some (.slice AL L.length cL) ∧ Below W.heap.size W Wq) (first | (have hh_ := ‹_ ∧ Below W.heap.size W _›; exact ⟨pw_cell_below hb4 hh_.1, below_step hh_.2 hb4⟩) | (refine ⟨hx, ?_⟩; repeat (first | exact Below.refl _ _ | apply below_drew))) (first
  | (go_at_call 51; have hh_ := ‹_ ∧ Below W.heap.size W _›; refine (HP.out _ hh_.2).mono ?_; (try clear hb4); clear hh_; rintro e w4 ⟨v, rfl, hR, hb4⟩; obtain ⟨Ap, cp, rfl⟩ := Kd.R_slice hR; have HPC := Aside0.mk (Kd.R_reads' hR).2.2; have HPL := Aside0.mk (Kd.R_reads' hR).2.1; have HPB := Aside0.mk (Below.refl w4.heap.size w4); clear hR)
  | (go_at_call 70; have hh_ := ‹_ ∧ Below W.heap.size W _›; refine (HR.out _ _ _ hh_.2 (Kd.C_below HPC.out (by repeat (first | exact HPB.out | apply below_drew))) HPL.out).mono ?_; (try clear hb4); clear hh_; rintro e w5 ⟨rfl, hb4⟩))
 all_goals
  go_wp2
  go_ret
  have hh_ := ‹_ ∧ Below W.heap.size W _›
  exact ⟨rfl, hh_.2⟩
end Go.Proofs.Ythbkjaieenochaa.L
