/- Texts of one chain, in build order. -/
import Derived.Test.YtkiloimggmpggaaYLambdaSum14
namespace Go.Proofs.Ytkiloimggmpggaa.P
open Go.RowKit Go.Proofs.YtkiloimggmpggaaW.PrintWords Go.Proofs.YtkiloimggmpggaaW.PrintLast Go.Proofs.YtkiloimggmpggaaW.PrintMore
attribute [local go_sem] max2_int min2_int max_two min_two max_three min_three max_four min_four   -- for this text's walks alone
set_option linter.unusedVariables false
set_option linter.unusedSimpArgs false

def spec_wePlus.f (k : Nat) (a0_0 : Int) (a0_1 : Int) (a1_0 : Int) (a1_1 : Int) : Option (Int × Int) := (spec_weRatio.f k (wrap64 ((wrap64 (a0_0 * a1_1)) + (wrap64 (a1_0 * a0_1)))) (wrap64 (a0_1 * a1_1))).bind fun bt185 => (some (bt185.1, bt185.2))
set_option maxHeartbeats 8000000 in
set_option maxRecDepth 100000 in
theorem spec_wePlus.calls (k : Nat) (a0_0 : Int) (a0_1 : Int) (a1_0 : Int) (a1_1 : Int) (r1 : Int) (r2 : Int) (w : World) (h : spec_wePlus.f k a0_0 a0_1 a1_0 a1_1 = some (r1, r2)) :
  Calls Try.prog 26 #[.agg #[.int .i64 a0_0, .int .i64 a0_1], .agg #[.int .i64 a1_0, .int .i64 a1_1]] w fun e w' => e = .returned (.agg #[.int .i64 r1, .int .i64 r2]) ∧ Below w.heap.size w w' := by
 have hu25 := Try.underlying25
 have HB := Aside0.mk (Below.refl w.heap.size w)
 have H : ((spec_weRatio.f k (wrap64 ((wrap64 (a0_0 * a1_1)) + (wrap64 (a1_0 * a0_1)))) (wrap64 (a0_1 * a1_1))).bind fun bt185 => (some (bt185.1, bt185.2))) = some (r1, r2) := h
 clear h
 replace H := Option.bind_eq_some_iff.mp H
 obtain ⟨⟨t185, t186⟩, A30, H⟩ := H
 replace H : (some (t185, t186)) = some (r1, r2) := H
 have A3 := Aside0.mk A30
 clear A30
 simp only [Option.some.injEq, Prod.mk.injEq] at H
 obtain ⟨rfl, rfl⟩ := H
 go_enter Try.func26, Try.ntmps26
 go_wp2_with (first | ((with_reducible refine gate_dst (N := 2) rfl ?_); refine box_event ?hg (N := 2) ?hd (cs := #[.int .i64 a0_0, .int .i64 a0_1]) (t := 25) ?hr ?_; (case hd => rfl); (case hg => rfl); (case hr => first | (go_simp; done) | (go_simp; rfl)); intro gb182 hg w4 hbox hb; have n0_ := Aside0.mk (below_step (by repeat (first | (with_reducible first | exact HB.out | apply below_alloc | apply pw_below_drewN | apply below_drew1) | exact HB.out)) hb); have n1_ := Aside0.mk (hbox); have n2_ := Aside0.mk ((by rw [hg]; exact (below_size (by repeat (first | (with_reducible first | exact HB.out | apply below_alloc | apply pw_below_drewN | apply below_drew1) | exact HB.out))) : w.heap.size ≤ gb182)); have n3_ := Aside0.mk ((by rw [hg]; exact (below_size (by repeat (first | (with_reducible first | exact HB.out | apply below_alloc | apply pw_below_drewN | apply below_drew1) | exact HB.out))) : w.heap.size ≤ gb182)); clear HB; have HB := n0_; have BK182 := n1_; have GW182 := n2_; have GE182 := n3_; clear n0_ n1_ n2_ n3_; clear hb hbox hg) | ((with_reducible refine gate_dst (N := 3) rfl ?_); refine box_event ?hg (N := 3) ?hd (cs := #[.int .i64 a1_0, .int .i64 a1_1]) (t := 25) ?hr ?_; (case hd => rfl); (case hg => rfl); (case hr => first | (go_simp; done) | (go_simp; rfl)); intro gb183 hg w5 hbox hb; have n0_ := Aside0.mk (blk_below (g := gb182) (o := .cells #[.int .i64 a0_0, .int .i64 a0_1] 25 (0, 0)) (by (with_reducible repeat (first | refine blk_drewN ?_ _ | refine blk_drew ?_ | refine blk_alloc ?_ _)); exact BK182.out) hb); have n1_ := Aside0.mk (below_step (by repeat (first | (with_reducible first | exact HB.out | apply below_alloc | apply pw_below_drewN | apply below_drew1 | refine below_set ?_ GE182.out) | exact HB.out)) hb); have n2_ := Aside0.mk (hbox); have n3_ := Aside0.mk ((by rw [hg]; exact (below_size (by repeat (first | (with_reducible first | exact HB.out | apply below_alloc | apply pw_below_drewN | apply below_drew1 | refine below_set ?_ GE182.out) | exact HB.out))) : w.heap.size ≤ gb183)); have n4_ := Aside0.mk ((by rw [hg]; exact (below_size (by repeat (first | (with_reducible first | exact HB.out | apply below_alloc | apply pw_below_drewN | apply below_drew1 | refine below_set ?_ GE182.out) | exact HB.out))) : w.heap.size ≤ gb183)); have n5_ := Aside0.mk ((by rw [hg]; exact Nat.ne_of_lt (blk_lt (g := gb182) (o := .cells #[.int .i64 a0_0, .int .i64 a0_1] 25 (0, 0)) (by (with_reducible repeat (first | refine blk_drewN ?_ _ | refine blk_drew ?_ | refine blk_alloc ?_ _)); exact BK182.out)) : gb182 ≠ gb183)); have n6_ := Aside0.mk ((by rw [hg]; exact Nat.ne_of_gt (blk_lt (g := gb182) (o := .cells #[.int .i64 a0_0, .int .i64 a0_1] 25 (0, 0)) (by (with_reducible repeat (first | refine blk_drewN ?_ _ | refine blk_drew ?_ | refine blk_alloc ?_ _)); exact BK182.out)) : gb183 ≠ gb182)); clear BK182; clear HB; have BK182 := n0_; have HB := n1_; have BK183 := n2_; have GW183 := n3_; have GE183 := n4_; have NB182_183 := n5_; have NB183_182 := n6_; clear n0_ n1_ n2_ n3_ n4_ n5_ n6_; clear hb hbox hg) | ((with_reducible refine gate_dst (N := 4) rfl ?_); refine box_event ?hg (N := 4) ?hd (cs := #[.int .i64 0, .int .i64 0]) (t := 25) ?hr ?_; (case hd => rfl); (case hg => rfl); (case hr => first | (go_simp; done) | (go_simp; rfl)); intro gb184 hg w6 hbox hb; have n0_ := Aside0.mk (blk_below (g := gb182) (o := .cells #[.int .i64 a0_0, .int .i64 a0_1] 25 (0, 0)) (by (with_reducible repeat (first | refine blk_drewN ?_ _ | refine blk_drew ?_ | refine blk_alloc ?_ _)); exact BK182.out) hb); have n1_ := Aside0.mk (blk_below (g := gb183) (o := .cells #[.int .i64 a1_0, .int .i64 a1_1] 25 (0, 0)) (by (with_reducible repeat (first | refine blk_drewN ?_ _ | refine blk_drew ?_ | refine blk_alloc ?_ _)); exact BK183.out) hb); have n2_ := Aside0.mk (below_step (by repeat (first | (with_reducible first | exact HB.out | apply below_alloc | apply pw_below_drewN | apply below_drew1 | refine below_set ?_ GE182.out | refine below_set ?_ GE183.out) | exact HB.out)) hb); have n3_ := Aside0.mk (hbox); have n4_ := Aside0.mk ((by rw [hg]; exact (below_size (by repeat (first | (with_reducible first | exact HB.out | apply below_alloc | apply pw_below_drewN | apply below_drew1 | refine below_set ?_ GE182.out | refine below_set ?_ GE183.out) | exact HB.out))) : w.heap.size ≤ gb184)); have n5_ := Aside0.mk ((by rw [hg]; exact (below_size (by repeat (first | (with_reducible first | exact HB.out | apply below_alloc | apply pw_below_drewN | apply below_drew1 | refine below_set ?_ GE182.out | refine below_set ?_ GE183.out) | exact HB.out))) : w.heap.size ≤ gb184)); have n6_ := Aside0.mk ((by rw [hg]; exact Nat.ne_of_lt (blk_lt (g := gb182) (o := .cells #[.int .i64 a0_0, .int .i64 a0_1] 25 (0, 0)) (by (with_reducible repeat (first | refine blk_drewN ?_ _ | refine blk_drew ?_ | refine blk_alloc ?_ _)); exact BK182.out)) : gb182 ≠ gb184)); have n7_ := Aside0.mk ((by rw [hg]; exact Nat.ne_of_gt (blk_lt (g := gb182) (o := .cells #[.int .i64 a0_0, .int .i64 a0_1] 25 (0, 0)) (by (with_reducible repeat (first | refine blk_drewN ?_ _ | refine blk_drew ?_ | refine blk_alloc ?_ _)); exact BK182.out)) : gb184 ≠ gb182)); have n8_ := Aside0.mk ((by rw [hg]; exact Nat.ne_of_lt (blk_lt (g := gb183) (o := .cells #[.int .i64 a1_0, .int .i64 a1_1] 25 (0, 0)) (by (with_reducible repeat (first | refine blk_drewN ?_ _ | refine blk_drew ?_ | refine blk_alloc ?_ _)); exact BK183.out)) : gb183 ≠ gb184)); have n9_ := Aside0.mk ((by rw [hg]; exact Nat.ne_of_gt (blk_lt (g := gb183) (o := .cells #[.int .i64 a1_0, .int .i64 a1_1] 25 (0, 0)) (by (with_reducible repeat (first | refine blk_drewN ?_ _ | refine blk_drew ?_ | refine blk_alloc ?_ _)); exact BK183.out)) : gb184 ≠ gb183)); clear BK182; clear BK183; clear HB; have BK182 := n0_; have BK183 := n1_; have HB := n2_; have BK184 := n3_; have GW184 := n4_; have GE184 := n5_; have NB182_184 := n6_; have NB184_182 := n7_; have NB183_184 := n8_; have NB184_183 := n9_; clear n0_ n1_ n2_ n3_ n4_ n5_ n6_ n7_ n8_ n9_; clear hb hbox hg; have hnb7 := NB182_183.out; have hnc7 := NB183_182.out; have hnb8 := NB182_184.out; have hnc8 := NB184_182.out; have hcz9_0 : w6.cell? ⟨gb182, 0, none⟩ = some (.int .i64 a0_0) := (blk_cell BK182.out 0).trans rfl; have hcz9_1 : w6.cell? ⟨gb182, 1, none⟩ = some (.int .i64 a0_1) := (blk_cell BK182.out 1).trans rfl; have hfz9_0 := blk_frozen BK182.out 0; have hfz9_1 := blk_frozen BK182.out 1; have hnb10 := NB183_184.out; have hnc10 := NB184_183.out; have hcz11_0 : w6.cell? ⟨gb183, 0, none⟩ = some (.int .i64 a1_0) := (blk_cell BK183.out 0).trans rfl; have hcz11_1 : w6.cell? ⟨gb183, 1, none⟩ = some (.int .i64 a1_1) := (blk_cell BK183.out 1).trans rfl; have hfz11_0 := blk_frozen BK183.out 0; have hfz11_1 := blk_frozen BK183.out 1) | ((with_reducible refine gate_callee (f := 28) rfl ?_); refine goesL_ (some 21) rfl rfl Try.func28 (by kernel_rfl) rfl #[.int .i64 (wrap64 ((wrap64 (a0_0 * a1_1)) + (wrap64 (a1_0 * a0_1)))), .int .i64 (wrap64 (a0_1 * a1_1))] rfl (by (try simp only [List.map_toArray, List.map_cons, List.map_nil]); first | done | rfl | (simp only [List.length_drop, List.length_take]; rfl)) ?_; (with_reducible refine (spec_weRatio.calls k (wrap64 ((wrap64 (a0_0 * a1_1)) + (wrap64 (a1_0 * a0_1)))) (wrap64 (a0_1 * a1_1)) t185 t186 _ A3.out).mono ?_); rintro e w12 ⟨rfl, hb⟩; refine ⟨_, rfl, ?_⟩; have n0_ := Aside0.mk (blk_below (g := gb182) (o := .cells #[.int .i64 a0_0, .int .i64 a0_1] 25 (0, 0)) (by (with_reducible repeat (first | refine blk_drewN ?_ _ | refine blk_drew ?_ | refine blk_alloc ?_ _)); exact BK182.out) hb); have n1_ := Aside0.mk (blk_below (g := gb183) (o := .cells #[.int .i64 a1_0, .int .i64 a1_1] 25 (0, 0)) (by (with_reducible repeat (first | refine blk_drewN ?_ _ | refine blk_drew ?_ | refine blk_alloc ?_ _)); exact BK183.out) hb); have n2_ := Aside0.mk (blk_below (g := gb184) (o := .cells #[.int .i64 0, .int .i64 0] 25 (0, 0)) (by (with_reducible repeat (first | refine blk_drewN ?_ _ | refine blk_drew ?_ | refine blk_alloc ?_ _)); exact BK184.out) hb); have n3_ := Aside0.mk (below_step (by repeat (first | (with_reducible first | exact HB.out | apply below_alloc | apply pw_below_drewN | apply below_drew1 | refine below_set ?_ GE182.out | refine below_set ?_ GE183.out | refine below_set ?_ GE184.out) | exact HB.out)) hb); clear BK182; clear BK183; clear BK184; clear HB; have BK182 := n0_; have BK183 := n1_; have BK184 := n2_; have HB := n3_; clear n0_ n1_ n2_ n3_; (try clear hb); (try clear hb2); (try clear hk); (try clear hi); have hcz13_0 : w12.cell? ⟨gb184, 0, none⟩ = some (.int .i64 0) := (blk_cell BK184.out 0).trans rfl; have hcz13_1 : w12.cell? ⟨gb184, 1, none⟩ = some (.int .i64 0) := (blk_cell BK184.out 1).trans rfl; have hfz13_0 := blk_frozen BK184.out 0; have hfz13_1 := blk_frozen BK184.out 1))
 refine bodyPost_ret (results_cell_row rfl _ _ gb184 25 #[.int .i64 t185, .int .i64 t186] (0, 0) _ rfl (by (with_reducible repeat (first | refine blk_drewN ?_ _ | refine blk_drew ?_ | refine blk_alloc ?_ _)); refine blk_put (cs := #[.int .i64 t185, .int .i64 0]) ?_ 1 _ rfl; (with_reducible repeat (first | refine blk_drewN ?_ _ | refine blk_drew ?_ | refine blk_alloc ?_ _)); refine blk_put (cs := #[.int .i64 0, .int .i64 0]) ?_ 0 _ rfl; (with_reducible repeat (first | refine blk_drewN ?_ _ | refine blk_drew ?_ | refine blk_alloc ?_ _)); exact BK184.out) Try.underlying25 rfl (by kernel_rfl)) rfl ?_
 exact ⟨by first | rfl | (simp [errW_none, errW_some] <;> rfl) | (simp [*, errW_none, errW_some] <;> rfl), by repeat (first | (with_reducible first | exact HB.out | apply below_alloc | apply pw_below_drewN | apply below_drew1 | refine below_set ?_ GE182.out | refine below_set ?_ GE183.out | refine below_set ?_ GE184.out) | exact HB.out)⟩

end Go.Proofs.Ytkiloimggmpggaa.P

namespace Go.Proofs.Ytkiloimggmpggaa.L
open Go.RowKit Go.Proofs.Ytkiloimggmpggaa Go.Proofs.Ytkiloimggmpggaa.P Go.Proofs.YtkiloimggmpggaaW.PrintWords Go.Proofs.YtkiloimggmpggaaW.PrintLast Go.Proofs.YtkiloimggmpggaaW.PrintMore
set_option linter.unusedVariables false

/-- A fraction of numbers of at least 0. -/
structure Q where
  n : Nat
  d : Nat
def Q.red (n d : Nat) : Q := ⟨n / Nat.gcd n d, d / Nat.gcd n d⟩
def Q.mul (a b : Q) : Q := ⟨(Q.red a.n b.d).n * (Q.red b.n a.d).n, (Q.red a.n b.d).d * (Q.red b.n a.d).d⟩
def Q.add (a b : Q) : Q := Q.red (a.n * b.d + b.n * a.d) (a.d * b.d)
/-- At most N over at most D, and the lower one not 0. -/
structure Q.In (q : Q) (N D : Nat) : Prop where
  n : q.n ≤ N
  d : q.d ≤ D
  p : 0 < q.d
theorem Q.In.mono {q : Q} {N D N' D' : Nat} (h : q.In N D) (hN : N ≤ N') (hD : D ≤ D') : q.In N' D' := ⟨Nat.le_trans h.n hN, Nat.le_trans h.d hD, h.p⟩
theorem Q.red_in (n d N D : Nat) (hn : n ≤ N) (hd : d ≤ D) (h : 0 < d) : (Q.red n d).In N D := by
  have hg : 0 < Nat.gcd n d := Nat.gcd_pos_of_pos_right _ h
  exact ⟨Nat.le_trans (Nat.div_le_self _ _) hn, Nat.le_trans (Nat.div_le_self _ _) hd, Nat.div_pos (Nat.le_of_dvd h (Nat.gcd_dvd_right n d)) hg⟩
theorem Q.mul_in {a b : Q} {N D N' D' : Nat} (ha : a.In N D) (hb : b.In N' D') : (a.mul b).In (N * N') (D' * D) := by
  have h1 := Q.red_in a.n b.d N D' ha.n hb.d hb.p
  have h2 := Q.red_in b.n a.d N' D hb.n ha.d ha.p
  exact ⟨Nat.mul_le_mul h1.n h2.n, Nat.mul_le_mul h1.d h2.d, Nat.mul_pos h1.p h2.p⟩
theorem Q.add_in {a b : Q} {N D N' D' : Nat} (ha : a.In N D) (hb : b.In N' D') : (a.add b).In (N * D' + N' * D) (D * D') :=
  Q.red_in _ _ _ _ (Nat.add_le_add (Nat.mul_le_mul ha.n hb.d) (Nat.mul_le_mul hb.n ha.d)) (Nat.mul_le_mul ha.d hb.d) (Nat.mul_pos ha.p hb.p)
theorem Q.red_pos (n d : Nat) (h : 0 < n) : 0 < (Q.red n d).n := Nat.div_pos (Nat.le_of_dvd h (Nat.gcd_dvd_left n d)) (Nat.gcd_pos_of_pos_left _ h)
theorem Q.mul_pos {a b : Q} (ha : 0 < a.n) (hb : 0 < b.n) : 0 < (a.mul b).n := Nat.mul_pos (Q.red_pos _ _ ha) (Q.red_pos _ _ hb)
theorem Q.mul_comm (a b : Q) : a.mul b = b.mul a := by
  unfold Q.mul
  rw [Nat.mul_comm (Q.red a.n b.d).n, Nat.mul_comm (Q.red a.n b.d).d]
theorem Q.red_scale (n d k : Nat) (hk : 0 < k) : Q.red (n * k) (d * k) = Q.red n d := by
  unfold Q.red
  rw [Nat.gcd_mul_right, Nat.mul_div_mul_right _ _ hk, Nat.mul_div_mul_right _ _ hk]

theorem times_Q (a b : Q) {N D N' D' : Nat} (ha : a.In N D) (hb : b.In N' D') (h1 : N * N' ≤ 1000000000000000000) (h2 : D' * D ≤ 1000000000000000000) (hN : N ≤ 1000000000000000000) (hN' : N' ≤ 1000000000000000000) (hD : D ≤ 1000000000000000000) (hD' : D' ≤ 1000000000000000000) :
    Ev (fun k => impl_Ratio_times.f k a.n a.d b.n b.d) (((a.mul b).n : Int), ((a.mul b).d : Int)) := by
  unfold impl_Ratio_times.f
  have e := Q.mul_in ha hb
  have := e.n; have := e.d
  refine Ev.bind (ratio_ev a.n b.d hb.p (by have := ha.n; omega) (by have := hb.d; omega)) (Ev.bind (ratio_ev b.n a.d ha.p (by have := hb.n; omega) (by have := ha.d; omega)) ?_)
  have f1 : ((a.n / Nat.gcd a.n b.d : Nat) : Int) * ((b.n / Nat.gcd b.n a.d : Nat) : Int) = (((a.mul b).n : Nat) : Int) := by rw [← Int.natCast_mul]; rfl
  have f2 : ((b.d / Nat.gcd a.n b.d : Nat) : Int) * ((a.d / Nat.gcd b.n a.d : Nat) : Int) = (((a.mul b).d : Nat) : Int) := by rw [← Int.natCast_mul]; rfl
  dsimp only
  rw [f1, f2, wrapN _ (by omega), wrapN _ (by omega)]
  exact Ev.now _
theorem weTimes_Q (a b : Q) {N D N' D' : Nat} (ha : a.In N D) (hb : b.In N' D') (h1 : N * N' ≤ 1000000000000000000) (h2 : D' * D ≤ 1000000000000000000) (hN : N ≤ 1000000000000000000) (hN' : N' ≤ 1000000000000000000) (hD : D ≤ 1000000000000000000) (hD' : D' ≤ 1000000000000000000) :
    Ev (fun k => spec_weTimes.f k a.n a.d b.n b.d) (((a.mul b).n : Int), ((a.mul b).d : Int)) := by
  unfold spec_weTimes.f
  have e := Q.mul_in ha hb
  have := e.n; have := e.d
  refine Ev.bind (weRatio_ev a.n b.d hb.p (by have := ha.n; omega) (by have := hb.d; omega)) (Ev.bind (weRatio_ev b.n a.d ha.p (by have := hb.n; omega) (by have := ha.d; omega)) ?_)
  have f1 : ((a.n / Nat.gcd a.n b.d : Nat) : Int) * ((b.n / Nat.gcd b.n a.d : Nat) : Int) = (((a.mul b).n : Nat) : Int) := by rw [← Int.natCast_mul]; rfl
  have f2 : ((b.d / Nat.gcd a.n b.d : Nat) : Int) * ((a.d / Nat.gcd b.n a.d : Nat) : Int) = (((a.mul b).d : Nat) : Int) := by rw [← Int.natCast_mul]; rfl
  dsimp only
  rw [f1, f2, wrapN _ (by omega), wrapN _ (by omega)]
  exact Ev.now _
theorem plus_Q (a b : Q) {N D N' D' : Nat} (ha : a.In N D) (hb : b.In N' D') (h1 : N * D' + N' * D ≤ 1000000000000000000) (h2 : D * D' ≤ 1000000000000000000) (hN : N ≤ 1000000000000000000) (hN' : N' ≤ 1000000000000000000) (hD : D ≤ 1000000000000000000) (hD' : D' ≤ 1000000000000000000) :
    Ev (fun k => impl_Ratio_plus.f k a.n a.d b.n b.d) (((a.add b).n : Int), ((a.add b).d : Int)) := by
  unfold impl_Ratio_plus.f impl_common.f
  obtain ⟨g, hg⟩ : ∃ g, g = Nat.gcd a.d b.d := ⟨_, rfl⟩
  have hgp : 0 < g := by rw [hg]; exact Nat.gcd_pos_of_pos_right _ hb.p
  obtain ⟨x, hx⟩ : g ∣ a.d := by rw [hg]; exact Nat.gcd_dvd_left _ _
  obtain ⟨y, hy⟩ : g ∣ b.d := by rw [hg]; exact Nat.gcd_dvd_right _ _
  have dx : a.d / g = x := by rw [hx]; exact Nat.mul_div_cancel_left x hgp
  have dy : b.d / g = y := by rw [hy]; exact Nat.mul_div_cancel_left y hgp
  have hxa : x ≤ a.d := by rw [hx]; exact Nat.le_mul_of_pos_left _ hgp
  have hyb : y ≤ b.d := by rw [hy]; exact Nat.le_mul_of_pos_left _ hgp
  have hxp : 0 < x := by rcases Nat.eq_zero_or_pos x with h | h; · rw [h, Nat.mul_zero] at hx; have := ha.p; omega
                         · exact h
  have b1 : a.n * y ≤ N * D' := Nat.mul_le_mul ha.n (Nat.le_trans hyb hb.d)
  have b2 : b.n * x ≤ N' * D := Nat.mul_le_mul hb.n (Nat.le_trans hxa ha.d)
  have b3 : x * b.d ≤ D * D' := Nat.mul_le_mul (Nat.le_trans hxa ha.d) hb.d
  have b4 := ha.d; have b5 := hb.d
  refine Ev.bind (common_ev b.d a.d) ?_
  rw [← hg]
  refine Ev.ite_neg (by omega) ?_
  rw [tdiv_nat, tdiv_nat, dx, dy, wrapN y (by omega), wrapN x (by omega), ← Int.natCast_mul, ← Int.natCast_mul, ← Int.natCast_mul, wrapN (a.n * y) (by omega), wrapN (b.n * x) (by omega), wrapN (x * b.d) (by omega), ← Int.natCast_add, wrapN _ (by omega)]
  refine Ev.bind (ratio_ev (a.n * y + b.n * x) (x * b.d) (Nat.mul_pos hxp hb.p) (by omega) (by omega)) ?_
  have e : Q.red (a.n * y + b.n * x) (x * b.d) = a.add b := by
    unfold Q.add
    rw [← Q.red_scale _ _ g hgp, show (a.n * y + b.n * x) * g = a.n * b.d + b.n * a.d by rw [Nat.add_mul, hx, hy, Nat.mul_assoc, Nat.mul_assoc, Nat.mul_comm y g, Nat.mul_comm x g], show x * b.d * g = a.d * b.d by rw [Nat.mul_right_comm, Nat.mul_comm x g, ← hx]]
  rw [← e]
  exact Ev.now _
theorem wePlus_Q (a b : Q) {N D N' D' : Nat} (ha : a.In N D) (hb : b.In N' D') (h1 : N * D' + N' * D ≤ 1000000000000000000) (h2 : D * D' ≤ 1000000000000000000) :
    Ev (fun k => spec_wePlus.f k a.n a.d b.n b.d) (((a.add b).n : Int), ((a.add b).d : Int)) := by
  unfold spec_wePlus.f
  have b1 : a.n * b.d ≤ N * D' := Nat.mul_le_mul ha.n hb.d
  have b2 : b.n * a.d ≤ N' * D := Nat.mul_le_mul hb.n ha.d
  have b3 : a.d * b.d ≤ D * D' := Nat.mul_le_mul ha.d hb.d
  rw [← Int.natCast_mul, ← Int.natCast_mul, ← Int.natCast_mul, wrapN (a.n * b.d) (by omega), wrapN (b.n * a.d) (by omega), wrapN (a.d * b.d) (by omega), ← Int.natCast_add, wrapN _ (by omega)]
  refine Ev.bind (weRatio_ev _ _ (Nat.mul_pos ha.p hb.p) (by omega) (by omega)) ?_
  exact Ev.now _
theorem weRatio_Q (n : Nat) (h : n ≤ 1000000000000000000) : Ev (fun k => spec_weRatio.f k n 1) ((n : Int), ((1 : Nat) : Int)) := by
  have := weRatio_ev n 1 (by omega) h (by omega)
  simpa using this
end Go.Proofs.Ytkiloimggmpggaa.L

namespace Go.Proofs.Ytkiloimggmpggaa.L
open Go.RowKit Go.Proofs.Ytkiloimggmpggaa Go.Proofs.Ytkiloimggmpggaa.P Go.Proofs.YtkiloimggmpggaaW.PrintWords Go.Proofs.YtkiloimggmpggaaW.PrintLast Go.Proofs.YtkiloimggmpggaaW.PrintMore
set_option linter.unusedVariables false

/-- How often v stands in the row from place j on. -/
def cR (v : Int) (r : List Int) (j : Nat) : Nat := (r.drop j).countP (· == v)
/-- How often v stands in the rows from row i on. -/
def cT (v : Int) (m : List (List Int)) (i : Nat) : Nat := ((m.drop i).map fun r => cR v r 0).sum
theorem cR_end (v : Int) (r : List Int) (j : Nat) (h : r.length ≤ j) : cR v r j = 0 := by unfold cR; rw [List.drop_eq_nil_of_le h]; rfl
theorem cR_hit (v : Int) (r : List Int) (j : Nat) (h : j < r.length) (e : rd r (j : Int) = v) : cR v r j = cR v r (j + 1) + 1 := by
 unfold cR
 rw [List.drop_eq_getElem_cons h, List.countP_cons_of_pos (by rw [← rd_at r j h, e]; simp)]
theorem cR_miss (v : Int) (r : List Int) (j : Nat) (h : j < r.length) (e : rd r (j : Int) ≠ v) : cR v r j = cR v r (j + 1) := by
 unfold cR
 rw [List.drop_eq_getElem_cons h, List.countP_cons_of_neg (by rw [← rd_at r j h]; simpa using e)]
theorem cT_end (v : Int) (m : List (List Int)) (i : Nat) (h : m.length ≤ i) : cT v m i = 0 := by unfold cT; rw [List.drop_eq_nil_of_le h]; rfl
theorem cT_step (v : Int) (m : List (List Int)) (i : Nat) (h : i < m.length) : cT v m i = cR v (m.getD i []) 0 + cT v m (i + 1) := by
 unfold cT
 rw [List.drop_eq_getElem_cons h, List.map_cons, List.sum_cons, List.getD_eq_getElem?_getD, List.getElem?_eq_getElem h, Option.getD_some]
/-- A fraction of a product of A numbers up to 4 over a divisor of 12 to the power B. -/
def PowR (r : Int × Int) (A B : Nat) : Prop := ∃ N D : Nat, r = (redN N D, redD N D) ∧ 0 < N ∧ 0 < D ∧ N ≤ 4 ^ A ∧ D ∣ 12 ^ B
theorem dvd12 {e : Nat} (h1 : 0 < e) (h4 : e ≤ 4) : e ∣ 12 := by
 have : e = 1 ∨ e = 2 ∨ e = 3 ∨ e = 4 := by omega
 rcases this with rfl | rfl | rfl | rfl <;> decide
theorem le12 {D b : Nat} (h : D ∣ 12 ^ b) (hb : b ≤ 16) : D ≤ 184884258895036416 := Nat.le_trans (Nat.le_of_dvd (Nat.pow_pos (by decide)) h) (Nat.le_trans (Nat.pow_le_pow_right (by decide) hb) (by decide))
theorem le4 {N a : Nat} (h : N ≤ 4 ^ a) (ha : a ≤ 16) : N ≤ 4294967296 := Nat.le_trans h (four_pow a ha)
theorem powB_l1 (m T : List (List Int)) (i : Nat) (hi : i < m.length) (hm4 : m.length ≤ 4) (hml : (m.getD i []).length = m.length) (hTl : T.length = m.length) (hTr : (T.getD i []).length = m.length) (hTe : ∀ j : Nat, j < m.length → 1 ≤ rd (T.getD i []) (j : Int) ∧ rd (T.getD i []) (j : Int) ≤ 4)
  (hr : ∀ N D a b : Nat, 0 < N → 0 < D → N ≤ 4 ^ a → D ∣ 12 ^ b → a + cT 1 m (i + 1) ≤ 16 → b + cT (-1) m (i + 1) ≤ 16 → ∃ r, PowR r (a + cT 1 m (i + 1)) (b + cT (-1) m (i + 1)) ∧ Ev (fun k => spec_wePowerOf.l0 k T N D m m.length ((i + 1 : Nat) : Int)) r ∧ Ev (fun k => impl_powerOf.l0 k T m m.length ((i + 1 : Nat) : Int) (redN N D) (redD N D)) r) :
  ∀ (d j N D a b : Nat), j + d = m.length → 0 < N → 0 < D → N ≤ 4 ^ a → D ∣ 12 ^ b → a + (cR 1 (m.getD i []) j + cT 1 m (i + 1)) ≤ 16 → b + (cR (-1) (m.getD i []) j + cT (-1) m (i + 1)) ≤ 16 →
   ∃ r, PowR r (a + (cR 1 (m.getD i []) j + cT 1 m (i + 1))) (b + (cR (-1) (m.getD i []) j + cT (-1) m (i + 1))) ∧ Ev (fun k => spec_wePowerOf.l1 k T N D i m m.length i (m.getD i []) (m.getD i []).length j) r ∧ Ev (fun k => impl_powerOf.l1 k T i m m.length i (m.getD i []) (m.getD i []).length j (redN N D) (redD N D)) r := by
 intro d
 induction d with
 | zero =>
  intro j N D a b hj hN hD bN bD ha hb
  rw [cR_end _ _ j (by omega)] at ha hb ⊢
  rw [cR_end _ _ j (by omega), Nat.zero_add, Nat.zero_add]
  rw [Nat.zero_add] at ha hb
  obtain ⟨r, h0, h1, h2⟩ := hr N D a b hN hD bN bD ha hb
  refine ⟨r, h0, ?_, ?_⟩
  ·refine Ev.step (fun k => by rw [spec_wePowerOf.l1]) ?_
   rw [wrapS i (by omega)]
   exact Ev.ite_neg (by omega) h1
  ·refine Ev.step (fun k => by rw [impl_powerOf.l1]) ?_
   rw [wrapS i (by omega)]
   exact Ev.ite_neg (by omega) h2
 | succ d ih =>
  intro j N D a b hj hN hD bN bD ha hb
  have hlN := le4 bN (by omega)
  have hlD := le12 bD (by omega)
  obtain ⟨hk1, hk2⟩ := hTe j (by omega)
  obtain ⟨e, he⟩ : ∃ e : Nat, rd (T.getD i []) (j : Int) = (e : Int) := ⟨(rd (T.getD i []) (j : Int)).toNat, by omega⟩
  have he1 : 0 < e := by omega
  have he4 : e ≤ 4 := by omega
  have hNe : N * e ≤ 4 ^ a * 4 := Nat.mul_le_mul bN he4
  have hNe2 : N * e ≤ 4294967296 * 4 := Nat.mul_le_mul hlN he4
  have hTT : rd_L1 T (i : Int) = T.getD i [] := rd1_get T i
  by_cases c1 : rd (m.getD i []) (j : Int) = 1
  ·have e1 := cR_hit 1 _ j (by omega) c1
   have e2 := cR_miss (-1) (m.getD i []) j (by omega) (by omega)
   rw [e1] at ha ⊢
   rw [e2] at hb ⊢
   obtain ⟨r, h0, h1, h2⟩ := ih (j + 1) (N * e) D (a + 1) b (by omega) (Nat.mul_pos hN he1) hD (by rw [Nat.pow_succ]; exact hNe) bD (by omega) hb
   rw [show a + 1 + (cR 1 (m.getD i []) (j + 1) + cT 1 m (i + 1)) = a + (cR 1 (m.getD i []) (j + 1) + 1 + cT 1 m (i + 1)) by omega] at h0
   refine ⟨r, h0, ?_, ?_⟩
   ·refine Ev.step (fun k => by rw [spec_wePowerOf.l1]) ?_
    rw [hTT, he, ← Int.natCast_mul, wrapN (N * e) (by omega), wrapS j (by omega)]
    exact Ev.ite_pos (by omega) (Ev.ite_pos (by omega) (Ev.ite_pos (by omega) (Ev.ite_pos c1 (Ev.ite_pos (by omega) (Ev.ite_pos (by omega) (Ev.ite_pos (by omega) h1))))))
   ·refine Ev.step (fun k => by rw [impl_powerOf.l1]) ?_
    rw [hTT, he, wrapS j (by omega)]
    exact Ev.ite_pos (by omega) (Ev.ite_pos (by omega) (Ev.ite_pos (by omega) (Ev.ite_pos c1 (Ev.ite_pos (by omega) (Ev.ite_pos (by omega) (Ev.ite_pos (by omega) (Ev.bind (times_ev N D e hN hD he1 (by omega) (by omega) (by omega)) h2)))))))
  ·have e1 := cR_miss 1 (m.getD i []) j (by omega) c1
   rw [e1] at ha ⊢
   by_cases c2 : rd (m.getD i []) (j : Int) = -1
   ·have e2 := cR_hit (-1) _ j (by omega) c2
    rw [e2] at hb ⊢
    have hDe : D * e ∣ 12 ^ (b + 1) := by rw [Nat.pow_succ]; exact Nat.mul_dvd_mul bD (dvd12 he1 he4)
    have hlDe := le12 hDe (by omega)
    obtain ⟨r, h0, h1, h2⟩ := ih (j + 1) N (D * e) a (b + 1) (by omega) hN (Nat.mul_pos hD he1) bN hDe ha (by omega)
    rw [show b + 1 + (cR (-1) (m.getD i []) (j + 1) + cT (-1) m (i + 1)) = b + (cR (-1) (m.getD i []) (j + 1) + 1 + cT (-1) m (i + 1)) by omega] at h0
    refine ⟨r, h0, ?_, ?_⟩
    ·refine Ev.step (fun k => by rw [spec_wePowerOf.l1]) ?_
     rw [hTT, he, ← Int.natCast_mul, ← Int.natCast_mul, wrapN (D * e) (by omega), wrapS j (by omega)]
     exact Ev.ite_pos (by omega) (Ev.ite_pos (by omega) (Ev.ite_pos (by omega) (Ev.ite_neg c1 (Ev.ite_pos c2 (Ev.ite_pos (by omega) (Ev.ite_pos (by omega) (Ev.ite_pos (by omega) h1)))))))
    ·refine Ev.step (fun k => by rw [impl_powerOf.l1]) ?_
     rw [hTT, he, wrapS j (by omega)]
     exact Ev.ite_pos (by omega) (Ev.ite_pos (by omega) (Ev.ite_pos (by omega) (Ev.ite_neg c1 (Ev.ite_pos c2 (Ev.ite_pos (by omega) (Ev.ite_pos (by omega) (Ev.ite_pos (by omega) (Ev.bind (over_ev N D e hN hD he1 (by omega) (by omega) (by omega)) h2))))))))
   ·have e2 := cR_miss (-1) (m.getD i []) j (by omega) c2
    rw [e2] at hb ⊢
    obtain ⟨r, h0, h1, h2⟩ := ih (j + 1) N D a b (by omega) hN hD bN bD ha hb
    refine ⟨r, h0, ?_, ?_⟩
    ·refine Ev.step (fun k => by rw [spec_wePowerOf.l1]) ?_
     rw [wrapS j (by omega)]
     exact Ev.ite_pos (by omega) (Ev.ite_pos (by omega) (Ev.ite_pos (by omega) (Ev.ite_neg c1 (Ev.ite_neg c2 h1))))
    ·refine Ev.step (fun k => by rw [impl_powerOf.l1]) ?_
     rw [wrapS j (by omega)]
     exact Ev.ite_pos (by omega) (Ev.ite_pos (by omega) (Ev.ite_pos (by omega) (Ev.ite_neg c1 (Ev.ite_neg c2 h2))))
theorem powB_l0 (m T : List (List Int)) (hm4 : m.length ≤ 4) (hm : ∀ i, i < m.length → (m.getD i []).length = m.length) (hTl : T.length = m.length) (hTr : ∀ i, i < m.length → (T.getD i []).length = m.length) (hTe : ∀ i j : Nat, i < m.length → j < m.length → 1 ≤ rd (T.getD i []) (j : Int) ∧ rd (T.getD i []) (j : Int) ≤ 4) :
  ∀ (d i N D a b : Nat), i + d = m.length → 0 < N → 0 < D → N ≤ 4 ^ a → D ∣ 12 ^ b → a + cT 1 m i ≤ 16 → b + cT (-1) m i ≤ 16 →
   ∃ r, PowR r (a + cT 1 m i) (b + cT (-1) m i) ∧ Ev (fun k => spec_wePowerOf.l0 k T N D m m.length i) r ∧ Ev (fun k => impl_powerOf.l0 k T m m.length i (redN N D) (redD N D)) r := by
 intro d
 induction d with
 | zero =>
  intro i N D a b hi hN hD bN bD ha hb
  rw [cT_end _ _ i (by omega)] at ha hb ⊢
  rw [cT_end _ _ i (by omega)]
  have hlN := le4 bN (by omega)
  have hlD := le12 bD (by omega)
  refine ⟨(redN N D, redD N D), ⟨N, D, rfl, hN, hD, bN, bD⟩, ?_, ?_⟩
  ·refine Ev.step (fun k => by rw [spec_wePowerOf.l0]) ?_
   exact Ev.ite_neg (by omega) (Ev.bind (weRatio_ev N D hD (by omega) (by omega)) (Ev.now _))
  ·refine Ev.step (fun k => by rw [impl_powerOf.l0]) ?_
   exact Ev.ite_neg (by omega) (Ev.now _)
 | succ d ih =>
  intro i N D a b hi hN hD bN bD ha hb
  have hlt : i < m.length := by omega
  rw [cT_step _ _ i hlt] at ha hb ⊢
  rw [cT_step _ _ i hlt]
  obtain ⟨r, h0, h1, h2⟩ := powB_l1 m T i hlt hm4 (hm i hlt) hTl (hTr i hlt) (fun j hj => hTe i j hlt hj) (fun N D a b c e f g x y => ih (i + 1) N D a b (by omega) c e f g x y) m.length 0 N D a b (by omega) hN hD bN bD ha hb
  refine ⟨r, h0, ?_, ?_⟩
  ·refine Ev.step (fun k => by rw [spec_wePowerOf.l0]) ?_
   rw [rd1_get]
   exact Ev.ite_pos (by omega) (Ev.ite_pos (by omega) (Ev.ite_pos (by omega) h1))
  ·refine Ev.step (fun k => by rw [impl_powerOf.l0]) ?_
   rw [rd1_get]
   exact Ev.ite_pos (by omega) (Ev.ite_pos (by omega) (Ev.ite_pos (by omega) h2))
theorem powB (m T : List (List Int)) (hm4 : m.length ≤ 4) (hm : ∀ i, i < m.length → (m.getD i []).length = m.length) (hTl : T.length = m.length) (hTr : ∀ i, i < m.length → (T.getD i []).length = m.length) (hTe : ∀ i j : Nat, i < m.length → j < m.length → 1 ≤ rd (T.getD i []) (j : Int) ∧ rd (T.getD i []) (j : Int) ≤ 4) (h1 : cT 1 m 0 ≤ 6) (h2 : cT (-1) m 0 ≤ 2) :
  ∃ p : Q, p.n ≤ 4096 ∧ p.d ∣ 144 ∧ 0 < p.d ∧ Ev (fun k => spec_wePowerOf.f k m T) ((p.n : Int), (p.d : Int)) ∧ Ev (fun k => impl_powerOf.f k m T) ((p.n : Int), (p.d : Int)) := by
 obtain ⟨r, ⟨N, D, rfl, hN, hD, bN, bD⟩, e1, e2⟩ := powB_l0 m T hm4 hm hTl hTr hTe m.length 0 1 1 0 0 (by omega) (by omega) (by omega) (by simp) (by simp) (by omega) (by omega)
 rw [Nat.zero_add] at bN bD
 refine ⟨Q.red N D, ?_, ?_, ?_, e1, e2⟩
 ·exact Nat.le_trans (Nat.div_le_self _ _) (Nat.le_trans bN (Nat.le_trans (Nat.pow_le_pow_right (by decide) h1) (by decide)))
 ·refine Nat.dvd_trans (Nat.div_dvd_of_dvd (Nat.gcd_dvd_right N D)) (Nat.dvd_trans bD (Nat.dvd_trans (Nat.pow_dvd_pow 12 h2) (by decide)))
 ·exact Nat.div_pos (Nat.le_of_dvd hD (Nat.gcd_dvd_right N D)) (Nat.gcd_pos_of_pos_right _ hD)
/-- A sum of fractions whose lower numbers divide M. -/
theorem Q.add_dvd (a b : Q) (M : Nat) (ha : 0 < a.d) (hb : 0 < b.d) (h1 : a.d ∣ M) (h2 : b.d ∣ M) : (a.add b).d ∣ M := by
 unfold Q.add Q.red
 dsimp only
 obtain ⟨u, hu⟩ := h1
 obtain ⟨v, hv⟩ := h2
 obtain ⟨X, hX⟩ : ∃ X, X = a.n * b.d + b.n * a.d := ⟨_, rfl⟩
 obtain ⟨Y, hY⟩ : ∃ Y, Y = a.d * b.d := ⟨_, rfl⟩
 have hYp : 0 < Y := by rw [hY]; exact Nat.mul_pos ha hb
 have hd : Y ∣ M * X := by
  refine ⟨a.n * u + b.n * v, ?_⟩
  rw [hX, hY, Nat.mul_add, Nat.mul_add]
  congr 1
  ·rw [hu]; simp only [Nat.mul_comm, Nat.mul_left_comm]
  ·rw [hv]; simp only [Nat.mul_comm, Nat.mul_left_comm]
 rw [← hX, ← hY]
 have hg : 0 < Nat.gcd X Y := Nat.gcd_pos_of_pos_right _ hYp
 have hc : Nat.Coprime (Y / Nat.gcd X Y) (X / Nat.gcd X Y) := (Nat.coprime_div_gcd_div_gcd hg).symm
 refine hc.dvd_of_dvd_mul_right ?_
 obtain ⟨y, hy⟩ := Nat.gcd_dvd_right X Y
 obtain ⟨x, hx⟩ := Nat.gcd_dvd_left X Y
 have e1 : Y / Nat.gcd X Y = y := by rw [Nat.div_eq_of_eq_mul_right hg hy]
 have e2 : X / Nat.gcd X Y = x := by rw [Nat.div_eq_of_eq_mul_right hg hx]
 rw [e1, e2]
 obtain ⟨z, hz⟩ := hd
 refine ⟨z, Nat.eq_of_mul_eq_mul_left hg ?_⟩
 calc Nat.gcd X Y * (M * x) = M * (Nat.gcd X Y * x) := Nat.mul_left_comm _ _ _
  _ = M * X := by rw [← hx]
  _ = Y * z := hz
  _ = Nat.gcd X Y * y * z := by rw [← hy]
  _ = Nat.gcd X Y * (y * z) := Nat.mul_assoc _ _ _
theorem Q.add_le (a b : Q) (U V : Nat) (ha : 0 < a.d) (hb : 0 < b.d) (h1 : a.n ≤ U * a.d) (h2 : b.n ≤ V * b.d) : (a.add b).n ≤ (U + V) * (a.add b).d := by
 unfold Q.add Q.red
 dsimp only
 obtain ⟨X, hX⟩ : ∃ X, X = a.n * b.d + b.n * a.d := ⟨_, rfl⟩
 obtain ⟨Y, hY⟩ : ∃ Y, Y = a.d * b.d := ⟨_, rfl⟩
 have hYp : 0 < Y := by rw [hY]; exact Nat.mul_pos ha hb
 have hle : X ≤ (U + V) * Y := by
  rw [hX, hY, Nat.add_mul]
  have e1 := Nat.mul_le_mul_right b.d h1
  have e2 := Nat.mul_le_mul_right a.d h2
  rw [Nat.mul_assoc] at e1 e2
  rw [Nat.mul_comm b.d a.d] at e2
  exact Nat.add_le_add e1 e2
 rw [← hX, ← hY]
 have hg : 0 < Nat.gcd X Y := Nat.gcd_pos_of_pos_right _ hYp
 obtain ⟨y, hy⟩ := Nat.gcd_dvd_right X Y
 obtain ⟨x, hx⟩ := Nat.gcd_dvd_left X Y
 have e1 : Y / Nat.gcd X Y = y := by rw [Nat.div_eq_of_eq_mul_right hg hy]
 have e2 : X / Nat.gcd X Y = x := by rw [Nat.div_eq_of_eq_mul_right hg hx]
 rw [e1, e2]
 refine Nat.le_of_mul_le_mul_left ?_ hg
 rw [← hx, Nat.mul_left_comm, ← hy]
 exact hle
end Go.Proofs.Ytkiloimggmpggaa.L

namespace Go.Proofs.Ytkiloimggmpggaa.P
open Go.RowKit Go.Proofs.YtkiloimggmpggaaW.PrintWords Go.Proofs.YtkiloimggmpggaaW.PrintLast Go.Proofs.YtkiloimggmpggaaW.PrintMore
attribute [local go_sem] max2_int min2_int max_two min_two max_three min_three max_four min_four   -- for this text's walks alone
set_option linter.unusedVariables false
set_option linter.unusedSimpArgs false

def impl_power.l0 : Nat → Int → Int → Int → Int → Option (Int)
 | 0, _, _, _, _ => none
 | k + 1, x0, x5, x6, x7 => if x7 < x6 then (impl_power.l0 k x0 (wrap64 (x5 * x0)) x6 (wrap64 (x7 + 1))) else (some x5)
def impl_power.f (k : Nat) (a0 : Int) (a1 : Int) : Option (Int) := impl_power.l0 k a0 1 a1 0
set_option maxHeartbeats 8000000 in
set_option maxRecDepth 100000 in
theorem impl_power.calls (k : Nat) (a0 : Int) (a1 : Int) (r : Int) (w : World) (h : impl_power.f k a0 a1 = some r) :
  Calls Try.prog 38 #[.int .i64 a0, .int .i64 a1] w fun e w' => e = .returned (.int .i64 r) ∧ Drawn0 w w' := by
 have H : (impl_power.l0 k a0 1 a1 0) = some r := h
 clear h
 have H' := Aside0.mk H
 clear H
 go_enter Try.func38, Try.ntmps38
 go_wp2
 go_loopg [5, 7] k (fun kq v5 v7 w' => ∃ (x5_1 : Int) (x7_1 : Int), v5 = .int .i64 x5_1 ∧ v7 = .int .i64 x7_1 ∧ Aside0 (impl_power.l0 kq a0 x5_1 a1 x7_1 = some r) ∧ Aside0 (kq ≤ k) ∧ Drawn0 w w')
 case atStart => exact ⟨(1), (0), (by first | rfl | (simp; done) | (simp [*]; done)), (by first | rfl | (simp; done) | (simp [*]; done)), H', ⟨Nat.le_refl _⟩, by repeat (first | exact Drawn0.refl _ | apply Drawn0.step)⟩
 case round =>
  clear H'
  try clear p2
  obtain ⟨x5_1, x7_1, rfl, rfl, HA, HK1, ⟨m1, rfl⟩⟩ := hrel
  cases gk with
  | zero => exact absurd HA.out (by simp [impl_power.l0])
  | succ k1 =>
   have H := HA.out
   clear HA
   simp only [impl_power.l0] at H
   by_cases c3 : x7_1 < a1
   ·rw [if_pos c3] at H
    have c3b0 : decide (x7_1 < a1) = true := decide_eq_true c3
    clear c3
    have H' := Aside0.mk H
    clear H
    go_wp2
    go_roundg k1
    case measure => have := HK1.out; omega
    case rel => exact ⟨(wrap64 (x5_1 * a0)), (wrap64 (x7_1 + 1)), (by first | rfl | (simp; done) | (simp [*]; done)), (by first | rfl | (simp; done) | (simp [*]; done)), H', ⟨by have := HK1.out; omega⟩, by repeat (first | exact Drawn0.refl _ | apply Drawn0.step)⟩
   ·rw [if_neg c3] at H
    have c3b0 : decide (x7_1 < a1) = false := decide_eq_false c3
    clear c3
    obtain rfl := Option.some.inj H
    go_wp2
    go_ret
    exact ⟨by first | rfl | (simp; done) | (simp [*]; done), by repeat (first | exact Drawn0.refl _ | apply Drawn0.step)⟩

end Go.Proofs.Ytkiloimggmpggaa.P

namespace Go.Proofs.Ytkiloimggmpggaa.P
open Go.RowKit Go.Proofs.YtkiloimggmpggaaW.PrintWords Go.Proofs.YtkiloimggmpggaaW.PrintLast Go.Proofs.YtkiloimggmpggaaW.PrintMore
attribute [local go_sem] max2_int min2_int max_two min_two max_three min_three max_four min_four   -- for this text's walks alone
set_option linter.unusedVariables false
set_option linter.unusedSimpArgs false

def spec_wePower.l0 : Nat → Int → Int → Int → Option (Int)
 | 0, _, _, _ => none
 | k + 1, x0, x1, x5 => if x1 > 0 then (spec_wePower.l0 k x0 (wrap64 (x1 - 1)) (wrap64 (x5 * x0))) else (some x5)
def spec_wePower.f (k : Nat) (a0 : Int) (a1 : Int) : Option (Int) := spec_wePower.l0 k a0 a1 1
set_option maxHeartbeats 8000000 in
set_option maxRecDepth 100000 in
theorem spec_wePower.calls (k : Nat) (a0 : Int) (a1 : Int) (r : Int) (w : World) (h : spec_wePower.f k a0 a1 = some r) :
  Calls Try.prog 25 #[.int .i64 a0, .int .i64 a1] w fun e w' => e = .returned (.int .i64 r) ∧ Drawn0 w w' := by
 have H : (spec_wePower.l0 k a0 a1 1) = some r := h
 clear h
 have H' := Aside0.mk H
 clear H
 go_enter Try.func25, Try.ntmps25
 go_wp2
 go_loopg [1, 5] k (fun kq v1 v5 w' => ∃ (x1_1 : Int) (x5_1 : Int), v1 = .int .i64 x1_1 ∧ v5 = .int .i64 x5_1 ∧ Aside0 (spec_wePower.l0 kq a0 x1_1 x5_1 = some r) ∧ Aside0 (kq ≤ k) ∧ Drawn0 w w')
 case atStart => exact ⟨(a1), (1), (by first | rfl | (simp; done) | (simp [*]; done)), (by first | rfl | (simp; done) | (simp [*]; done)), H', ⟨Nat.le_refl _⟩, by repeat (first | exact Drawn0.refl _ | apply Drawn0.step)⟩
 case round =>
  clear H'
  try clear c2
  try clear p2
  obtain ⟨x1_1, x5_1, rfl, rfl, HA, HK1, ⟨m1, rfl⟩⟩ := hrel
  cases gk with
  | zero => exact absurd HA.out (by simp [spec_wePower.l0])
  | succ k1 =>
   have H := HA.out
   clear HA
   simp only [spec_wePower.l0] at H
   by_cases c3 : x1_1 > 0
   ·rw [if_pos c3] at H
    have c3b0 : decide (0 < x1_1) = true := decide_eq_true c3
    clear c3
    have H' := Aside0.mk H
    clear H
    go_wp2
    go_roundg k1
    case measure => have := HK1.out; omega
    case rel => exact ⟨(wrap64 (x1_1 - 1)), (wrap64 (x5_1 * a0)), (by first | rfl | (simp; done) | (simp [*]; done)), (by first | rfl | (simp; done) | (simp [*]; done)), H', ⟨by have := HK1.out; omega⟩, by repeat (first | exact Drawn0.refl _ | apply Drawn0.step)⟩
   ·rw [if_neg c3] at H
    have c3b0 : decide (0 < x1_1) = false := decide_eq_false c3
    clear c3
    obtain rfl := Option.some.inj H
    go_wp2
    go_ret
    exact ⟨by first | rfl | (simp; done) | (simp [*]; done), by repeat (first | exact Drawn0.refl _ | apply Drawn0.step)⟩

end Go.Proofs.Ytkiloimggmpggaa.P

namespace Go.Proofs.Ytkiloimggmpggaa.L
open Go.RowKit Go.Proofs.Ytkiloimggmpggaa Go.Proofs.Ytkiloimggmpggaa.P Go.Proofs.YtkiloimggmpggaaW.PrintWords Go.Proofs.YtkiloimggmpggaaW.PrintLast Go.Proofs.YtkiloimggmpggaaW.PrintMore
set_option linter.unusedVariables false

/-- The power, as the words hold it. -/
def pw (a : Int) : Nat → Int
 | 0 => 1
 | n + 1 => wrap64 (pw a n * a)
theorem impl_power_l0 (a n : Int) (h : n ≤ 9223372036854775807) : ∀ (d i : Nat), i + d = n.toNat → Ev (fun k => impl_power.l0 k a (pw a i) n i) (pw a n.toNat) := by
 intro d
 induction d with
 | zero =>
  intro i hi
  refine Ev.step (fun k => by rw [impl_power.l0]) ?_
  have e : i = n.toNat := by omega
  subst e
  exact Ev.ite_neg (by omega) (Ev.now _)
 | succ d ih =>
  intro i hi
  refine Ev.step (fun k => by rw [impl_power.l0]) ?_
  rw [wrapS i (by omega)]
  exact Ev.ite_pos (by omega) (ih (i + 1) (by omega))
theorem impl_power_ev (a n : Int) (h : n ≤ 9223372036854775807) : Ev (fun k => impl_power.f k a n) (pw a n.toNat) := impl_power_l0 a n h n.toNat 0 (by omega)
theorem spec_power_l0 (a : Int) : ∀ (d i : Nat), d ≤ 9223372036854775807 → Ev (fun k => spec_wePower.l0 k a d (pw a i)) (pw a (i + d)) := by
 intro d
 induction d with
 | zero =>
  intro i hd
  refine Ev.step (fun k => by rw [spec_wePower.l0]) ?_
  exact Ev.ite_neg (by omega) (Ev.now _)
 | succ d ih =>
  intro i hd
  refine Ev.step (fun k => by rw [spec_wePower.l0]) ?_
  refine Ev.ite_pos (by omega) ?_
  rw [show wrap64 (((d + 1 : Nat) : Int) - 1) = (d : Int) by unfold wrap64; omega, show i + (d + 1) = i + 1 + d by omega]
  exact ih (i + 1) (by omega)
theorem spec_power_ev (a n : Int) (h : n ≤ 9223372036854775807) : Ev (fun k => spec_wePower.f k a n) (pw a n.toNat) := by
 by_cases h0 : 0 ≤ n
 ·have := spec_power_l0 a n.toNat 0 (by omega)
  rw [Nat.zero_add, Int.toNat_of_nonneg h0] at this
  exact this
 ·unfold spec_wePower.f
  refine Ev.step (fun k => by rw [spec_wePower.l0]) ?_
  rw [show n.toNat = 0 by omega]
  exact Ev.ite_neg (by omega) (Ev.now _)
end Go.Proofs.Ytkiloimggmpggaa.L
