/- Texts of one chain, in build order. -/
import Derived.Test.YtkiloimggmpggaaYCondenseSteps13
namespace Go.Proofs.Ytkiloimggmpggaa.P
open Go.RowKit Go.Proofs.YtkiloimggmpggaaW.PrintWords Go.Proofs.YtkiloimggmpggaaW.PrintLast Go.Proofs.YtkiloimggmpggaaW.PrintMore
attribute [local go_sem] max2_int min2_int max_two min_two max_three min_three max_four min_four   -- for this text's walks alone
set_option linter.unusedVariables false
set_option linter.unusedSimpArgs false

def spec_wePlus.f (k : Nat) (a0_0 : Int) (a0_1 : Int) (a1_0 : Int) (a1_1 : Int) : Option (Int × Int) := (spec_weRatio.f k (wrap64 ((wrap64 (a0_0 * a1_1)) + (wrap64 (a1_0 * a0_1)))) (wrap64 (a0_1 * a1_1))).bind fun bt185 => (some (bt185.1, bt185.2))
set_option maxHeartbeats 8000000 in
set_option maxRecDepth 100000 in
theorem spec_wePlus.calls (k : Nat) (a0_0 : Int) (a0_1 : Int) (a1_0 : Int) (a1_1 : Int) (r1 : Int) (r2 : Int) (w : World) (h : spec_wePlus.f k a0_0 a0_1 a1_0 a1_1 = some (r1, r2)) :
  Calls Try.prog 26 #[.agg #[.int .i64 a0_0, .int .i64 a0_1], .agg #[.int .i64 a1_0, .int .i64 a1_1]] w fun e w' => e = .returned (.agg #[.int .i64 r1, .int .i64 r2]) ∧ Below w.heap.size w w' := by
 have hu25 := Try.underlying25
 have HB := Aside0.mk (Below.refl w.heap.size w)
 have H : ((spec_weRatio.f k (wrap64 ((wrap64 (a0_0 * a1_1)) + (wrap64 (a1_0 * a0_1)))) (wrap64 (a0_1 * a1_1))).bind fun bt185 => (some (bt185.1, bt185.2))) = some (r1, r2) := h
 clear h
 replace H := Option.bind_eq_some_iff.mp H
 obtain ⟨⟨t185, t186⟩, A30, H⟩ := H
 replace H : (some (t185, t186)) = some (r1, r2) := H
 have A3 := Aside0.mk A30
 clear A30
 simp only [Option.some.injEq, Prod.mk.injEq] at H
 obtain ⟨rfl, rfl⟩ := H
 go_enter Try.func26, Try.ntmps26
 go_wp2_with (first | ((with_reducible refine gate_dst (N := 2) rfl ?_); refine box_event ?hg (N := 2) ?hd (cs := #[.int .i64 a0_0, .int .i64 a0_1]) (t := 25) ?hr ?_; (case hd => rfl); (case hg => rfl); (case hr => first | (go_simp; done) | (go_simp; rfl)); intro gb182 hg w4 hbox hb; have n0_ := Aside0.mk (below_step (by repeat (first | (with_reducible first | exact HB.out | apply below_alloc | apply pw_below_drewN | apply below_drew1) | exact HB.out)) hb); have n1_ := Aside0.mk (hbox); have n2_ := Aside0.mk ((by rw [hg]; exact (below_size (by repeat (first | (with_reducible first | exact HB.out | apply below_alloc | apply pw_below_drewN | apply below_drew1) | exact HB.out))) : w.heap.size ≤ gb182)); have n3_ := Aside0.mk ((by rw [hg]; exact (below_size (by repeat (first | (with_reducible first | exact HB.out | apply below_alloc | apply pw_below_drewN | apply below_drew1) | exact HB.out))) : w.heap.size ≤ gb182)); clear HB; have HB := n0_; have BK182 := n1_; have GW182 := n2_; have GE182 := n3_; clear n0_ n1_ n2_ n3_; clear hb hbox hg) | ((with_reducible refine gate_dst (N := 3) rfl ?_); refine box_event ?hg (N := 3) ?hd (cs := #[.int .i64 a1_0, .int .i64 a1_1]) (t := 25) ?hr ?_; (case hd => rfl); (case hg => rfl); (case hr => first | (go_simp; done) | (go_simp; rfl)); intro gb183 hg w5 hbox hb; have n0_ := Aside0.mk (blk_below (g := gb182) (o := .cells #[.int .i64 a0_0, .int .i64 a0_1] 25 (0, 0)) (by (with_reducible repeat (first | refine blk_drewN ?_ _ | refine blk_drew ?_ | refine blk_alloc ?_ _)); exact BK182.out) hb); have n1_ := Aside0.mk (below_step (by repeat (first | (with_reducible first | exact HB.out | apply below_alloc | apply pw_below_drewN | apply below_drew1 | refine below_set ?_ GE182.out) | exact HB.out)) hb); have n2_ := Aside0.mk (hbox); have n3_ := Aside0.mk ((by rw [hg]; exact (below_size (by repeat (first | (with_reducible first | exact HB.out | apply below_alloc | apply pw_below_drewN | apply below_drew1 | refine below_set ?_ GE182.out) | exact HB.out))) : w.heap.size ≤ gb183)); have n4_ := Aside0.mk ((by rw [hg]; exact (below_size (by repeat (first | (with_reducible first | exact HB.out | apply below_alloc | apply pw_below_drewN | apply below_drew1 | refine below_set ?_ GE182.out) | exact HB.out))) : w.heap.size ≤ gb183)); have n5_ := Aside0.mk ((by rw [hg]; exact Nat.ne_of_lt (blk_lt (g := gb182) (o := .cells #[.int .i64 a0_0, .int .i64 a0_1] 25 (0, 0)) (by (with_reducible repeat (first | refine blk_drewN ?_ _ | refine blk_drew ?_ | refine blk_alloc ?_ _)); exact BK182.out)) : gb182 ≠ gb183)); have n6_ := Aside0.mk ((by rw [hg]; exact Nat.ne_of_gt (blk_lt (g := gb182) (o := .cells #[.int .i64 a0_0, .int .i64 a0_1] 25 (0, 0)) (by (with_reducible repeat (first | refine blk_drewN ?_ _ | refine blk_drew ?_ | refine blk_alloc ?_ _)); exact BK182.out)) : gb183 ≠ gb182)); clear BK182; clear HB; have BK182 := n0_; have HB := n1_; have BK183 := n2_; have GW183 := n3_; have GE183 := n4_; have NB182_183 := n5_; have NB183_182 := n6_; clear n0_ n1_ n2_ n3_ n4_ n5_ n6_; clear hb hbox hg) | ((with_reducible refine gate_dst (N := 4) rfl ?_); refine box_event ?hg (N := 4) ?hd (cs := #[.int .i64 0, .int .i64 0]) (t := 25) ?hr ?_; (case hd => rfl); (case hg => rfl); (case hr => first | (go_simp; done) | (go_simp; rfl)); intro gb184 hg w6 hbox hb; have n0_ := Aside0.mk (blk_below (g := gb182) (o := .cells #[.int .i64 a0_0, .int .i64 a0_1] 25 (0, 0)) (by (with_reducible repeat (first | refine blk_drewN ?_ _ | refine blk_drew ?_ | refine blk_alloc ?_ _)); exact BK182.out) hb); have n1_ := Aside0.mk (blk_below (g := gb183) (o := .cells #[.int .i64 a1_0, .int .i64 a1_1] 25 (0, 0)) (by (with_reducible repeat (first | refine blk_drewN ?_ _ | refine blk_drew ?_ | refine blk_alloc ?_ _)); exact BK183.out) hb); have n2_ := Aside0.mk (below_step (by repeat (first | (with_reducible first | exact HB.out | apply below_alloc | apply pw_below_drewN | apply below_drew1 | refine below_set ?_ GE182.out | refine below_set ?_ GE183.out) | exact HB.out)) hb); have n3_ := Aside0.mk (hbox); have n4_ := Aside0.mk ((by rw [hg]; exact (below_size (by repeat (first | (with_reducible first | exact HB.out | apply below_alloc | apply pw_below_drewN | apply below_drew1 | refine below_set ?_ GE182.out | refine below_set ?_ GE183.out) | exact HB.out))) : w.heap.size ≤ gb184)); have n5_ := Aside0.mk ((by rw [hg]; exact (below_size (by repeat (first | (with_reducible first | exact HB.out | apply below_alloc | apply pw_below_drewN | apply below_drew1 | refine below_set ?_ GE182.out | refine below_set ?_ GE183.out) | exact HB.out))) : w.heap.size ≤ gb184)); have n6_ := Aside0.mk ((by rw [hg]; exact Nat.ne_of_lt (blk_lt (g := gb182) (o := .cells #[.int .i64 a0_0, .int .i64 a0_1] 25 (0, 0)) (by (with_reducible repeat (first | refine blk_drewN ?_ _ | refine blk_drew ?_ | refine blk_alloc ?_ _)); exact BK182.out)) : gb182 ≠ gb184)); have n7_ := Aside0.mk ((by rw [hg]; exact Nat.ne_of_gt (blk_lt (g := gb182) (o := .cells #[.int .i64 a0_0, .int .i64 a0_1] 25 (0, 0)) (by (with_reducible repeat (first | refine blk_drewN ?_ _ | refine blk_drew ?_ | refine blk_alloc ?_ _)); exact BK182.out)) : gb184 ≠ gb182)); have n8_ := Aside0.mk ((by rw [hg]; exact Nat.ne_of_lt (blk_lt (g := gb183) (o := .cells #[.int .i64 a1_0, .int .i64 a1_1] 25 (0, 0)) (by (with_reducible repeat (first | refine blk_drewN ?_ _ | refine blk_drew ?_ | refine blk_alloc ?_ _)); exact BK183.out)) : gb183 ≠ gb184)); have n9_ := Aside0.mk ((by rw [hg]; exact Nat.ne_of_gt (blk_lt (g := gb183) (o := .cells #[.int .i64 a1_0, .int .i64 a1_1] 25 (0, 0)) (by (with_reducible repeat (first | refine blk_drewN ?_ _ | refine blk_drew ?_ | refine blk_alloc ?_ _)); exact BK183.out)) : gb184 ≠ gb183)); clear BK182; clear BK183; clear HB; have BK182 := n0_; have BK183 := n1_; have HB := n2_; have BK184 := n3_; have GW184 := n4_; have GE184 := n5_; have NB182_184 := n6_; have NB184_182 := n7_; have NB183_184 := n8_; have NB184_183 := n9_; clear n0_ n1_ n2_ n3_ n4_ n5_ n6_ n7_ n8_ n9_; clear hb hbox hg; have hnb7 := NB182_183.out; have hnc7 := NB183_182.out; have hnb8 := NB182_184.out; have hnc8 := NB184_182.out; have hcz9_0 : w6.cell? ⟨gb182, 0, none⟩ = some (.int .i64 a0_0) := (blk_cell BK182.out 0).trans rfl; have hcz9_1 : w6.cell? ⟨gb182, 1, none⟩ = some (.int .i64 a0_1) := (blk_cell BK182.out 1).trans rfl; have hfz9_0 := blk_frozen BK182.out 0; have hfz9_1 := blk_frozen BK182.out 1; have hnb10 := NB183_184.out; have hnc10 := NB184_183.out; have hcz11_0 : w6.cell? ⟨gb183, 0, none⟩ = some (.int .i64 a1_0) := (blk_cell BK183.out 0).trans rfl; have hcz11_1 : w6.cell? ⟨gb183, 1, none⟩ = some (.int .i64 a1_1) := (blk_cell BK183.out 1).trans rfl; have hfz11_0 := blk_frozen BK183.out 0; have hfz11_1 := blk_frozen BK183.out 1) | ((with_reducible refine gate_callee (f := 28) rfl ?_); refine goesL_ (some 21) rfl rfl Try.func28 (by kernel_rfl) rfl #[.int .i64 (wrap64 ((wrap64 (a0_0 * a1_1)) + (wrap64 (a1_0 * a0_1)))), .int .i64 (wrap64 (a0_1 * a1_1))] rfl (by (try simp only [List.map_toArray, List.map_cons, List.map_nil]); first | done | rfl | (simp only [List.length_drop, List.length_take]; rfl)) ?_; (with_reducible refine (spec_weRatio.calls k (wrap64 ((wrap64 (a0_0 * a1_1)) + (wrap64 (a1_0 * a0_1)))) (wrap64 (a0_1 * a1_1)) t185 t186 _ A3.out).mono ?_); rintro e w12 ⟨rfl, hb⟩; refine ⟨_, rfl, ?_⟩; have n0_ := Aside0.mk (blk_below (g := gb182) (o := .cells #[.int .i64 a0_0, .int .i64 a0_1] 25 (0, 0)) (by (with_reducible repeat (first | refine blk_drewN ?_ _ | refine blk_drew ?_ | refine blk_alloc ?_ _)); exact BK182.out) hb); have n1_ := Aside0.mk (blk_below (g := gb183) (o := .cells #[.int .i64 a1_0, .int .i64 a1_1] 25 (0, 0)) (by (with_reducible repeat (first | refine blk_drewN ?_ _ | refine blk_drew ?_ | refine blk_alloc ?_ _)); exact BK183.out) hb); have n2_ := Aside0.mk (blk_below (g := gb184) (o := .cells #[.int .i64 0, .int .i64 0] 25 (0, 0)) (by (with_reducible repeat (first | refine blk_drewN ?_ _ | refine blk_drew ?_ | refine blk_alloc ?_ _)); exact BK184.out) hb); have n3_ := Aside0.mk (below_step (by repeat (first | (with_reducible first | exact HB.out | apply below_alloc | apply pw_below_drewN | apply below_drew1 | refine below_set ?_ GE182.out | refine below_set ?_ GE183.out | refine below_set ?_ GE184.out) | exact HB.out)) hb); clear BK182; clear BK183; clear BK184; clear HB; have BK182 := n0_; have BK183 := n1_; have BK184 := n2_; have HB := n3_; clear n0_ n1_ n2_ n3_; (try clear hb); (try clear hb2); (try clear hk); (try clear hi); have hcz13_0 : w12.cell? ⟨gb184, 0, none⟩ = some (.int .i64 0) := (blk_cell BK184.out 0).trans rfl; have hcz13_1 : w12.cell? ⟨gb184, 1, none⟩ = some (.int .i64 0) := (blk_cell BK184.out 1).trans rfl; have hfz13_0 := blk_frozen BK184.out 0; have hfz13_1 := blk_frozen BK184.out 1))
 refine bodyPost_ret (results_cell_row rfl _ _ gb184 25 #[.int .i64 t185, .int .i64 t186] (0, 0) _ rfl (by (with_reducible repeat (first | refine blk_drewN ?_ _ | refine blk_drew ?_ | refine blk_alloc ?_ _)); refine blk_put (cs := #[.int .i64 t185, .int .i64 0]) ?_ 1 _ rfl; (with_reducible repeat (first | refine blk_drewN ?_ _ | refine blk_drew ?_ | refine blk_alloc ?_ _)); refine blk_put (cs := #[.int .i64 0, .int .i64 0]) ?_ 0 _ rfl; (with_reducible repeat (first | refine blk_drewN ?_ _ | refine blk_drew ?_ | refine blk_alloc ?_ _)); exact BK184.out) Try.underlying25 rfl (by kernel_rfl)) rfl ?_
 exact ⟨by first | rfl | (simp [errW_none, errW_some] <;> rfl) | (simp [*, errW_none, errW_some] <;> rfl), by repeat (first | (with_reducible first | exact HB.out | apply below_alloc | apply pw_below_drewN | apply below_drew1 | refine below_set ?_ GE182.out | refine below_set ?_ GE183.out | refine below_set ?_ GE184.out) | exact HB.out)⟩

end Go.Proofs.Ytkiloimggmpggaa.P

namespace Go.Proofs.Ytkiloimggmpggaa.L
open Go.RowKit Go.Proofs.Ytkiloimggmpggaa Go.Proofs.Ytkiloimggmpggaa.P Go.Proofs.YtkiloimggmpggaaW.PrintWords Go.Proofs.YtkiloimggmpggaaW.PrintLast Go.Proofs.YtkiloimggmpggaaW.PrintMore
set_option linter.unusedVariables false

/-- A fraction of numbers of at least 0. -/
structure Q where
  n : Nat
  d : Nat
def Q.red (n d : Nat) : Q := ⟨n / Nat.gcd n d, d / Nat.gcd n d⟩
def Q.mul (a b : Q) : Q := ⟨(Q.red a.n b.d).n * (Q.red b.n a.d).n, (Q.red a.n b.d).d * (Q.red b.n a.d).d⟩
def Q.div (a b : Q) : Q := a.mul ⟨b.d, b.n⟩
def Q.add (a b : Q) : Q := Q.red (a.n * b.d + b.n * a.d) (a.d * b.d)
/-- At most N over at most D, and the lower one not 0. -/
structure Q.In (q : Q) (N D : Nat) : Prop where
  n : q.n ≤ N
  d : q.d ≤ D
  p : 0 < q.d
theorem Q.In.mono {q : Q} {N D N' D' : Nat} (h : q.In N D) (hN : N ≤ N') (hD : D ≤ D') : q.In N' D' := ⟨Nat.le_trans h.n hN, Nat.le_trans h.d hD, h.p⟩
theorem Q.red_in (n d N D : Nat) (hn : n ≤ N) (hd : d ≤ D) (h : 0 < d) : (Q.red n d).In N D := by
  have hg : 0 < Nat.gcd n d := Nat.gcd_pos_of_pos_right _ h
  exact ⟨Nat.le_trans (Nat.div_le_self _ _) hn, Nat.le_trans (Nat.div_le_self _ _) hd, Nat.div_pos (Nat.le_of_dvd h (Nat.gcd_dvd_right n d)) hg⟩
theorem Q.mul_in {a b : Q} {N D N' D' : Nat} (ha : a.In N D) (hb : b.In N' D') : (a.mul b).In (N * N') (D' * D) := by
  have h1 := Q.red_in a.n b.d N D' ha.n hb.d hb.p
  have h2 := Q.red_in b.n a.d N' D hb.n ha.d ha.p
  exact ⟨Nat.mul_le_mul h1.n h2.n, Nat.mul_le_mul h1.d h2.d, Nat.mul_pos h1.p h2.p⟩
theorem Q.add_in {a b : Q} {N D N' D' : Nat} (ha : a.In N D) (hb : b.In N' D') : (a.add b).In (N * D' + N' * D) (D * D') :=
  Q.red_in _ _ _ _ (Nat.add_le_add (Nat.mul_le_mul ha.n hb.d) (Nat.mul_le_mul hb.n ha.d)) (Nat.mul_le_mul ha.d hb.d) (Nat.mul_pos ha.p hb.p)
theorem Q.red_pos (n d : Nat) (h : 0 < n) : 0 < (Q.red n d).n := Nat.div_pos (Nat.le_of_dvd h (Nat.gcd_dvd_left n d)) (Nat.gcd_pos_of_pos_left _ h)
theorem Q.mul_pos {a b : Q} (ha : 0 < a.n) (hb : 0 < b.n) : 0 < (a.mul b).n := Nat.mul_pos (Q.red_pos _ _ ha) (Q.red_pos _ _ hb)
theorem Q.add_pos {a b : Q} (ha : 0 < a.n) (hb : 0 < b.d) : 0 < (a.add b).n := Q.red_pos _ _ (Nat.lt_of_lt_of_le (Nat.mul_pos ha hb) (Nat.le_add_right _ _))
theorem Q.mul_comm (a b : Q) : a.mul b = b.mul a := by
  unfold Q.mul
  rw [Nat.mul_comm (Q.red a.n b.d).n, Nat.mul_comm (Q.red a.n b.d).d]
theorem Q.red_scale (n d k : Nat) (hk : 0 < k) : Q.red (n * k) (d * k) = Q.red n d := by
  unfold Q.red
  rw [Nat.gcd_mul_right, Nat.mul_div_mul_right _ _ hk, Nat.mul_div_mul_right _ _ hk]

theorem times_Q (a b : Q) {N D N' D' : Nat} (ha : a.In N D) (hb : b.In N' D') (h1 : N * N' ≤ 1000000000000000000) (h2 : D' * D ≤ 1000000000000000000) (hN : N ≤ 1000000000000000000) (hN' : N' ≤ 1000000000000000000) (hD : D ≤ 1000000000000000000) (hD' : D' ≤ 1000000000000000000) :
    Ev (fun k => impl_Ratio_times.f k a.n a.d b.n b.d) (((a.mul b).n : Int), ((a.mul b).d : Int)) := by
  unfold impl_Ratio_times.f
  have e := Q.mul_in ha hb
  have := e.n; have := e.d
  refine Ev.bind (ratio_ev a.n b.d hb.p (by have := ha.n; omega) (by have := hb.d; omega)) (Ev.bind (ratio_ev b.n a.d ha.p (by have := hb.n; omega) (by have := ha.d; omega)) ?_)
  have f1 : ((a.n / Nat.gcd a.n b.d : Nat) : Int) * ((b.n / Nat.gcd b.n a.d : Nat) : Int) = (((a.mul b).n : Nat) : Int) := by rw [← Int.natCast_mul]; rfl
  have f2 : ((b.d / Nat.gcd a.n b.d : Nat) : Int) * ((a.d / Nat.gcd b.n a.d : Nat) : Int) = (((a.mul b).d : Nat) : Int) := by rw [← Int.natCast_mul]; rfl
  dsimp only
  rw [f1, f2, wrapN _ (by omega), wrapN _ (by omega)]
  exact Ev.now _
theorem weTimes_Q (a b : Q) {N D N' D' : Nat} (ha : a.In N D) (hb : b.In N' D') (h1 : N * N' ≤ 1000000000000000000) (h2 : D' * D ≤ 1000000000000000000) (hN : N ≤ 1000000000000000000) (hN' : N' ≤ 1000000000000000000) (hD : D ≤ 1000000000000000000) (hD' : D' ≤ 1000000000000000000) :
    Ev (fun k => spec_weTimes.f k a.n a.d b.n b.d) (((a.mul b).n : Int), ((a.mul b).d : Int)) := by
  unfold spec_weTimes.f
  have e := Q.mul_in ha hb
  have := e.n; have := e.d
  refine Ev.bind (weRatio_ev a.n b.d hb.p (by have := ha.n; omega) (by have := hb.d; omega)) (Ev.bind (weRatio_ev b.n a.d ha.p (by have := hb.n; omega) (by have := ha.d; omega)) ?_)
  have f1 : ((a.n / Nat.gcd a.n b.d : Nat) : Int) * ((b.n / Nat.gcd b.n a.d : Nat) : Int) = (((a.mul b).n : Nat) : Int) := by rw [← Int.natCast_mul]; rfl
  have f2 : ((b.d / Nat.gcd a.n b.d : Nat) : Int) * ((a.d / Nat.gcd b.n a.d : Nat) : Int) = (((a.mul b).d : Nat) : Int) := by rw [← Int.natCast_mul]; rfl
  dsimp only
  rw [f1, f2, wrapN _ (by omega), wrapN _ (by omega)]
  exact Ev.now _
theorem over_Q (a b : Q) {N D N' D' : Nat} (ha : a.In N D) (hb : b.In N' D') (hp : 0 < b.n) (h1 : N * D' ≤ 1000000000000000000) (h2 : N' * D ≤ 1000000000000000000) (hN : N ≤ 1000000000000000000) (hN' : N' ≤ 1000000000000000000) (hD : D ≤ 1000000000000000000) (hD' : D' ≤ 1000000000000000000) :
    Ev (fun k => impl_Ratio_over.f k a.n a.d b.n b.d) (((a.div b).n : Int), ((a.div b).d : Int)) := by
  unfold impl_Ratio_over.f
  exact Ev.bind (times_Q a ⟨b.d, b.n⟩ ha (⟨hb.d, hb.n, hp⟩ : Q.In ⟨b.d, b.n⟩ D' N') h1 h2 hN hD' hD hN') (Ev.now _)
theorem plus_Q (a b : Q) {N D N' D' : Nat} (ha : a.In N D) (hb : b.In N' D') (h1 : N * D' + N' * D ≤ 1000000000000000000) (h2 : D * D' ≤ 1000000000000000000) (hN : N ≤ 1000000000000000000) (hN' : N' ≤ 1000000000000000000) (hD : D ≤ 1000000000000000000) (hD' : D' ≤ 1000000000000000000) :
    Ev (fun k => impl_Ratio_plus.f k a.n a.d b.n b.d) (((a.add b).n : Int), ((a.add b).d : Int)) := by
  unfold impl_Ratio_plus.f impl_common.f
  obtain ⟨g, hg⟩ : ∃ g, g = Nat.gcd a.d b.d := ⟨_, rfl⟩
  have hgp : 0 < g := by rw [hg]; exact Nat.gcd_pos_of_pos_right _ hb.p
  obtain ⟨x, hx⟩ : g ∣ a.d := by rw [hg]; exact Nat.gcd_dvd_left _ _
  obtain ⟨y, hy⟩ : g ∣ b.d := by rw [hg]; exact Nat.gcd_dvd_right _ _
  have dx : a.d / g = x := by rw [hx]; exact Nat.mul_div_cancel_left x hgp
  have dy : b.d / g = y := by rw [hy]; exact Nat.mul_div_cancel_left y hgp
  have hxa : x ≤ a.d := by rw [hx]; exact Nat.le_mul_of_pos_left _ hgp
  have hyb : y ≤ b.d := by rw [hy]; exact Nat.le_mul_of_pos_left _ hgp
  have hxp : 0 < x := by rcases Nat.eq_zero_or_pos x with h | h; · rw [h, Nat.mul_zero] at hx; have := ha.p; omega
                         · exact h
  have b1 : a.n * y ≤ N * D' := Nat.mul_le_mul ha.n (Nat.le_trans hyb hb.d)
  have b2 : b.n * x ≤ N' * D := Nat.mul_le_mul hb.n (Nat.le_trans hxa ha.d)
  have b3 : x * b.d ≤ D * D' := Nat.mul_le_mul (Nat.le_trans hxa ha.d) hb.d
  have b4 := ha.d; have b5 := hb.d
  refine Ev.bind (common_ev b.d a.d) ?_
  rw [← hg]
  refine Ev.ite_neg (by omega) ?_
  rw [tdiv_nat, tdiv_nat, dx, dy, wrapN y (by omega), wrapN x (by omega), ← Int.natCast_mul, ← Int.natCast_mul, ← Int.natCast_mul, wrapN (a.n * y) (by omega), wrapN (b.n * x) (by omega), wrapN (x * b.d) (by omega), ← Int.natCast_add, wrapN _ (by omega)]
  refine Ev.bind (ratio_ev (a.n * y + b.n * x) (x * b.d) (Nat.mul_pos hxp hb.p) (by omega) (by omega)) ?_
  have e : Q.red (a.n * y + b.n * x) (x * b.d) = a.add b := by
    unfold Q.add
    rw [← Q.red_scale _ _ g hgp, show (a.n * y + b.n * x) * g = a.n * b.d + b.n * a.d by rw [Nat.add_mul, hx, hy, Nat.mul_assoc, Nat.mul_assoc, Nat.mul_comm y g, Nat.mul_comm x g], show x * b.d * g = a.d * b.d by rw [Nat.mul_right_comm, Nat.mul_comm x g, ← hx]]
  rw [← e]
  exact Ev.now _
theorem wePlus_Q (a b : Q) {N D N' D' : Nat} (ha : a.In N D) (hb : b.In N' D') (h1 : N * D' + N' * D ≤ 1000000000000000000) (h2 : D * D' ≤ 1000000000000000000) :
    Ev (fun k => spec_wePlus.f k a.n a.d b.n b.d) (((a.add b).n : Int), ((a.add b).d : Int)) := by
  unfold spec_wePlus.f
  have b1 : a.n * b.d ≤ N * D' := Nat.mul_le_mul ha.n hb.d
  have b2 : b.n * a.d ≤ N' * D := Nat.mul_le_mul hb.n ha.d
  have b3 : a.d * b.d ≤ D * D' := Nat.mul_le_mul ha.d hb.d
  rw [← Int.natCast_mul, ← Int.natCast_mul, ← Int.natCast_mul, wrapN (a.n * b.d) (by omega), wrapN (b.n * a.d) (by omega), wrapN (a.d * b.d) (by omega), ← Int.natCast_add, wrapN _ (by omega)]
  refine Ev.bind (weRatio_ev _ _ (Nat.mul_pos ha.p hb.p) (by omega) (by omega)) ?_
  exact Ev.now _
theorem weRatio_Q (n : Nat) (h : n ≤ 1000000000000000000) : Ev (fun k => spec_weRatio.f k n 1) ((n : Int), ((1 : Nat) : Int)) := by
  have := weRatio_ev n 1 (by omega) h (by omega)
  simpa using this
end Go.Proofs.Ytkiloimggmpggaa.L

namespace Go.Proofs.Ytkiloimggmpggaa.L
open Go.RowKit Go.Proofs.Ytkiloimggmpggaa Go.Proofs.Ytkiloimggmpggaa.P Go.Proofs.YtkiloimggmpggaaW.PrintWords Go.Proofs.YtkiloimggmpggaaW.PrintLast Go.Proofs.YtkiloimggmpggaaW.PrintMore
set_option linter.unusedVariables false

/-- A fraction, as the programs hold it. -/
def qS (q : Q) : S25 := ⟨q.n, q.d⟩
def at2 (T : List (List Q)) (i j : Nat) : Q := (T.getD i []).getD j ⟨1, 1⟩
/-- One place of the next table. -/
def cellOf (lam : Nat) (a b c e f : Q) : Q := ((a.mul e).add ((b.mul c).mul ⟨lam, 1⟩)).div f
def cellQ (lam : Nat) (now bef : List (List Q)) (i j : Nat) : Q := cellOf lam (at2 now i j) (at2 now i (j + 1)) (at2 now (i + 1) j) (at2 now (i + 1) (j + 1)) (at2 bef (i + 1) (j + 1))
def rowQ (lam : Nat) (now bef : List (List Q)) (i m : Nat) : List Q := (List.range m).map (cellQ lam now bef i)
def rowsQ (lam : Nat) (now bef : List (List Q)) (w m : Nat) : List (List Q) := (List.range m).map fun i => rowQ lam now bef i w
def nextQ (lam m : Nat) (now bef : List (List Q)) : List (List Q) := rowsQ lam now bef m m
/-- The table and all later ones. -/
def stepsQ (lam : Nat) : Nat → List (List Q) → List (List Q) → List (List (List Q))
  | 0, bef, now => [now]
  | d + 1, bef, now => now :: stepsQ lam d now (nextQ lam (d + 1) now bef)
def bef0 (n : Nat) : List (List Q) := List.replicate (n + 1) (List.replicate (n + 1) ⟨1, 1⟩)
def now0 (l : List (List Int)) : List (List Q) := l.map fun r => r.map fun x => (⟨x.toNat, 1⟩ : Q)
theorem rowQ_succ (lam : Nat) (now bef : List (List Q)) (i m : Nat) : rowQ lam now bef i (m + 1) = rowQ lam now bef i m ++ [cellQ lam now bef i m] := by simp [rowQ, List.range_succ]
theorem rowsQ_succ (lam : Nat) (now bef : List (List Q)) (w m : Nat) : rowsQ lam now bef w (m + 1) = rowsQ lam now bef w m ++ [rowQ lam now bef m w] := by simp [rowsQ, List.range_succ]
theorem rowQ_length (lam : Nat) (now bef : List (List Q)) (i m : Nat) : (rowQ lam now bef i m).length = m := by simp [rowQ]
theorem rowsQ_length (lam : Nat) (now bef : List (List Q)) (w m : Nat) : (rowsQ lam now bef w m).length = m := by simp [rowsQ]
/-- A square table of m rows, its numbers within bounds and above 0. -/
structure Sq (T : List (List Q)) (m N D : Nat) : Prop where
  len : T.length = m
  row : ∀ i, i < m → (T.getD i []).length = m
  ok : ∀ i j, i < m → j < m → (at2 T i j).In N D ∧ 0 < (at2 T i j).n
def bN : Nat → Nat
  | 0 => 1
  | 1 => 4
  | 2 => 64
  | 3 => 16384
  | _ => 17179869184
def bD : Nat → Nat
  | 0 => 1
  | 1 => 1
  | 2 => 1
  | 3 => 4
  | _ => 16384
/-- What must hold of the bounds so that nothing runs over. -/
def numsOk (N D M E N' D' : Nat) : Bool :=
  decide (N * N * 3 * (D * D) * 2 * M * E ≤ 100000000000000000) && decide ((N * N * (D * D) + N * N * 3 * (D * D)) * E ≤ N') && decide (D * D * (D * D) * M ≤ D') && decide (N * N * 3 * (D * D) * 2 ≤ 100000000000000000) && decide (N ≤ 100000000000) && decide (D ≤ 100000000000) && decide (M ≤ 100000000000) && decide (E ≤ 100000000000) && decide (N * N ≤ 100000000000000000) && decide (D * D * (D * D) ≤ 100000000000000000) && decide (D * D ≤ 100000000000000000) && decide (N * N * 3 ≤ 100000000000000000) && decide (N' ≤ 100000000000000000) && decide (D' ≤ 100000000000000000) && decide (N * N * (D * D) + N * N * 3 * (D * D) ≤ 100000000000000000)
theorem nums_ok {s : Nat} (h : s ≤ 2) : numsOk (bN (s + 1)) (bD (s + 1)) (bN s) (bD s) (bN (s + 2)) (bD (s + 2)) = true := by
  have e : s = 0 ∨ s = 1 ∨ s = 2 := by omega
  rcases e with rfl | rfl | rfl <;> decide +kernel
/-- A call that gives a fraction. -/
def RetQ (w : World) (q : Q) (e : Ending) (w' : World) : Prop := e = .returned (.agg #[.int .i64 q.n, .int .i64 q.d]) ∧ Below w.heap.size w w'
structure CellCalls (lam : Nat) (a b c e f one bc two sm r : Q) : Prop where
  i1 : ∀ w, Calls Try.prog 37 #[.agg #[.int .i64 a.n, .int .i64 a.d], .agg #[.int .i64 e.n, .int .i64 e.d]] w (RetQ w one)
  i2 : ∀ w, Calls Try.prog 37 #[.agg #[.int .i64 b.n, .int .i64 b.d], .agg #[.int .i64 c.n, .int .i64 c.d]] w (RetQ w bc)
  i3 : ∀ w, Calls Try.prog 37 #[.agg #[.int .i64 bc.n, .int .i64 bc.d], .agg #[.int .i64 lam, .int .i64 1]] w (RetQ w two)
  i4 : ∀ w, Calls Try.prog 35 #[.agg #[.int .i64 one.n, .int .i64 one.d], .agg #[.int .i64 two.n, .int .i64 two.d]] w (RetQ w sm)
  i5 : ∀ w, Calls Try.prog 61 #[.agg #[.int .i64 sm.n, .int .i64 sm.d], .agg #[.int .i64 f.n, .int .i64 f.d]] w (RetQ w r)
  s1 : ∀ w, Calls Try.prog 27 #[.agg #[.int .i64 a.n, .int .i64 a.d], .agg #[.int .i64 e.n, .int .i64 e.d]] w (RetQ w one)
  s2 : ∀ w, Calls Try.prog 27 #[.agg #[.int .i64 b.n, .int .i64 b.d], .agg #[.int .i64 c.n, .int .i64 c.d]] w (RetQ w bc)
  s3 : ∀ w, Calls Try.prog 28 #[.int .i64 lam, .int .i64 1] w (RetQ w ⟨lam, 1⟩)
  s4 : ∀ w, Calls Try.prog 27 #[.agg #[.int .i64 lam, .int .i64 ((1 : Nat) : Int)], .agg #[.int .i64 bc.n, .int .i64 bc.d]] w (RetQ w two)
  s5 : ∀ w, Calls Try.prog 26 #[.agg #[.int .i64 one.n, .int .i64 one.d], .agg #[.int .i64 two.n, .int .i64 two.d]] w (RetQ w sm)
  s6 : ∀ w, Calls Try.prog 27 #[.agg #[.int .i64 sm.n, .int .i64 sm.d], .agg #[.int .i64 f.d, .int .i64 f.n]] w (RetQ w r)
theorem cell_calls (lam : Nat) (hl : lam ≤ 3) (a b c e f : Q) {N D M E N' D' : Nat} (hn : numsOk N D M E N' D' = true) (ha : a.In N D ∧ 0 < a.n) (hb : b.In N D ∧ 0 < b.n) (hc : c.In N D ∧ 0 < c.n) (he : e.In N D ∧ 0 < e.n) (hf : f.In M E ∧ 0 < f.n) :
    ∃ one bc two sm, CellCalls lam a b c e f one bc two sm (cellOf lam a b c e f) ∧ (cellOf lam a b c e f).In N' D' ∧ 0 < (cellOf lam a b c e f).n := by
  simp only [numsOk, Bool.and_eq_true, decide_eq_true_eq] at hn
  obtain ⟨⟨⟨⟨⟨⟨⟨⟨⟨⟨⟨⟨⟨⟨n1, n2⟩, n3⟩, n4⟩, n5⟩, n6⟩, n7⟩, n8⟩, n9⟩, n10⟩, n11⟩, n12⟩, n13⟩, n14⟩, n15⟩ := hn
  have i1 : (a.mul e).In (N * N) (D * D) := Q.mul_in ha.1 he.1
  have i2 : (b.mul c).In (N * N) (D * D) := Q.mul_in hb.1 hc.1
  have il : (⟨lam, 1⟩ : Q).In 3 1 := ⟨hl, Nat.le_refl _, Nat.one_pos⟩
  have i3 : ((b.mul c).mul ⟨lam, 1⟩).In (N * N * 3) (D * D) := by have := Q.mul_in i2 il; rwa [Nat.one_mul] at this
  have i4 : ((a.mul e).add ((b.mul c).mul ⟨lam, 1⟩)).In (N * N * (D * D) + N * N * 3 * (D * D)) (D * D * (D * D)) := Q.add_in i1 i3
  have p1 : 0 < (a.mul e).n := Q.mul_pos ha.2 he.2
  have p4 : 0 < ((a.mul e).add ((b.mul c).mul ⟨lam, 1⟩)).n := Q.add_pos p1 i3.p
  have iff_ : (⟨f.d, f.n⟩ : Q).In E M := ⟨hf.1.d, hf.1.n, hf.2⟩
  have i5 : (cellOf lam a b c e f).In ((N * N * (D * D) + N * N * 3 * (D * D)) * E) (M * (D * D * (D * D))) := Q.mul_in i4 iff_
  have big : ∀ x, x ≤ 100000000000000000 → x ≤ 1000000000000000000 := fun x h => Nat.le_trans h (by decide)
  have big1 : ∀ x, x ≤ 100000000000 → x ≤ 1000000000000000000 := fun x h => Nat.le_trans h (by decide)
  have q1 := big _ (Nat.le_trans n2 n13)
  have q2 : M * (D * D * (D * D)) ≤ 1000000000000000000 := by rw [Nat.mul_comm]; exact big _ (Nat.le_trans n3 n14)
  have hN := big1 _ n5
  have hD := big1 _ n6
  have hM := big1 _ n7
  have hE := big1 _ n8
  obtain ⟨k1, r1⟩ := (times_Q a e ha.1 he.1 (big _ n9) (big _ n11) hN hN hD hD).rounds
  obtain ⟨k2, r2⟩ := (times_Q b c hb.1 hc.1 (big _ n9) (big _ n11) hN hN hD hD).rounds
  obtain ⟨k3, r3⟩ := (times_Q (b.mul c) ⟨lam, 1⟩ i2 il (big _ n12) (by rw [Nat.one_mul]; exact big _ n11) (big _ n9) (by decide) (big _ n11) (by decide)).rounds
  obtain ⟨k4, r4⟩ := (plus_Q (a.mul e) ((b.mul c).mul ⟨lam, 1⟩) i1 i3 (big _ n15) (big _ n10) (big _ n9) (big _ n12) (big _ n11) (big _ n11)).rounds
  obtain ⟨k5, r5⟩ := (over_Q ((a.mul e).add ((b.mul c).mul ⟨lam, 1⟩)) f i4 hf.1 hf.2 q1 q2 (big _ n15) hM (big _ n10) hE).rounds
  obtain ⟨h1, t1⟩ := (weTimes_Q a e ha.1 he.1 (big _ n9) (big _ n11) hN hN hD hD).rounds
  obtain ⟨h2, t2⟩ := (weTimes_Q b c hb.1 hc.1 (big _ n9) (big _ n11) hN hN hD hD).rounds
  obtain ⟨h3, t3⟩ := (weRatio_Q lam (Nat.le_trans hl (by decide))).rounds
  obtain ⟨h4, t4⟩ := (weTimes_Q ⟨lam, 1⟩ (b.mul c) il i2 (by rw [Nat.mul_comm]; exact big _ n12) (by rw [Nat.mul_one]; exact big _ n11) (by decide) (big _ n9) (by decide) (big _ n11)).rounds
  obtain ⟨h5, t5⟩ := (wePlus_Q (a.mul e) ((b.mul c).mul ⟨lam, 1⟩) i1 i3 (big _ n15) (big _ n10)).rounds
  obtain ⟨h6, t6⟩ := (weTimes_Q ((a.mul e).add ((b.mul c).mul ⟨lam, 1⟩)) ⟨f.d, f.n⟩ i4 iff_ q1 q2 (big _ n15) hE (big _ n10) hM).rounds
  rw [Q.mul_comm ⟨lam, 1⟩ (b.mul c)] at t4
  exact ⟨a.mul e, b.mul c, (b.mul c).mul ⟨lam, 1⟩, _,
    ⟨fun w => impl_Ratio_times.calls k1 _ _ _ _ _ _ w r1, fun w => impl_Ratio_times.calls k2 _ _ _ _ _ _ w r2, fun w => impl_Ratio_times.calls k3 _ _ _ _ _ _ w r3, fun w => impl_Ratio_plus.calls k4 _ _ _ _ _ _ w r4, fun w => impl_Ratio_over.calls k5 _ _ _ _ _ _ w r5,
     fun w => spec_weTimes.calls h1 _ _ _ _ _ _ w t1, fun w => spec_weTimes.calls h2 _ _ _ _ _ _ w t2, fun w => spec_weRatio.calls h3 _ _ _ _ w t3, fun w => spec_weTimes.calls h4 _ _ _ _ _ _ w t4, fun w => spec_wePlus.calls h5 _ _ _ _ _ _ w t5, fun w => spec_weTimes.calls h6 _ _ _ _ _ _ w t6⟩,
    i5.mono n2 (by rw [Nat.mul_comm]; exact n3), Q.mul_pos p4 hf.1.p⟩
theorem at2_get {T : List (List Q)} (i j : Nat) (hi : i < T.length) (hj : j < T[i].length) : at2 T i j = T[i][j] := by
  have e : T.getD i [] = T[i] := by rw [List.getD_eq_getElem?_getD, List.getElem?_eq_getElem hi, Option.getD_some]
  unfold at2
  rw [e, List.getD_eq_getElem?_getD, List.getElem?_eq_getElem hj, Option.getD_some]
theorem at2_rowsQ (lam : Nat) (now bef : List (List Q)) (w m i j : Nat) (hi : i < m) (hj : j < w) : at2 (rowsQ lam now bef w m) i j = cellQ lam now bef i j := by
  rw [at2_get i j (by rw [rowsQ_length]; exact hi) (by simp [rowsQ, rowQ]; exact hj)]
  simp [rowsQ, rowQ]
theorem next_Sq {lam m s : Nat} (hl : lam ≤ 3) {now bef : List (List Q)} (hs : s ≤ 2) (hn : Sq now (m + 1) (bN (s + 1)) (bD (s + 1))) (hb : Sq bef (m + 2) (bN s) (bD s)) : Sq (nextQ lam m now bef) m (bN (s + 2)) (bD (s + 2)) := by
  refine ⟨rowsQ_length _ _ _ _ _, fun i hi => ?_, fun i j hi hj => ?_⟩
  · rw [List.getD_eq_getElem?_getD, List.getElem?_eq_getElem (by unfold nextQ; rw [rowsQ_length]; exact hi), Option.getD_some]
    simp [nextQ, rowsQ, rowQ]
  · unfold nextQ
    rw [at2_rowsQ _ _ _ _ _ _ _ hi hj]
    obtain ⟨_, _, _, _, _, h1, h2⟩ := cell_calls lam hl _ _ _ _ _ (nums_ok hs) (hn.ok i j (by omega) (by omega)) (hn.ok i (j + 1) (by omega) (by omega)) (hn.ok (i + 1) j (by omega) (by omega)) (hn.ok (i + 1) (j + 1) (by omega) (by omega)) (hb.ok (i + 1) (j + 1) (by omega) (by omega))
    exact ⟨h1, h2⟩
theorem bef0_Sq (n : Nat) : Sq (bef0 n) (n + 1) (bN 0) (bD 0) := by
  have hat : ∀ i j, i < n + 1 → j < n + 1 → at2 (bef0 n) i j = ⟨1, 1⟩ := fun i j hi hj => by
    rw [at2_get i j (by simp [bef0]; omega) (by simp [bef0]; omega)]
    simp [bef0]
  refine ⟨by simp [bef0], fun i hi => ?_, fun i j hi hj => ?_⟩
  · rw [List.getD_eq_getElem?_getD, List.getElem?_eq_getElem (by simp [bef0]; omega), Option.getD_some]
    simp [bef0]
  · rw [hat i j hi hj]
    exact ⟨⟨by decide, by decide, by decide⟩, by decide⟩
theorem now0_Sq {l : List (List Int)} (hr : ∀ i, i < l.length → (l.getD i []).length = l.length) (he : ∀ i j : Nat, i < l.length → j < l.length → 1 ≤ rd (l.getD i []) (j : Int) ∧ rd (l.getD i []) (j : Int) ≤ 4) : Sq (now0 l) l.length (bN 1) (bD 1) := by
  have hrow : ∀ i, (h : i < l.length) → l[i].length = l.length := fun i h => by
    have := hr i h
    rwa [List.getD_eq_getElem?_getD, List.getElem?_eq_getElem h, Option.getD_some] at this
  have hat : ∀ i j, (hi : i < l.length) → (hj : j < l.length) → at2 (now0 l) i j = ⟨(rd (l.getD i []) (j : Int)).toNat, 1⟩ := fun i j hi hj => by
    rw [at2_get i j (by simp [now0]; omega) (by simp [now0]; rw [hrow i hi]; exact hj)]
    rw [List.getD_eq_getElem?_getD, List.getElem?_eq_getElem hi, Option.getD_some, rd_at _ _ (by rw [hrow i hi]; exact hj)]
    simp [now0]
  refine ⟨by simp [now0], fun i hi => ?_, fun i j hi hj => ?_⟩
  · rw [List.getD_eq_getElem?_getD, List.getElem?_eq_getElem (by simp [now0]; omega), Option.getD_some]
    simp [now0]
    exact hrow i hi
  · rw [hat i j hi hj]
    have := he i j hi hj
    have h1 : 1 ≤ (rd (l.getD i []) (j : Int)).toNat ∧ (rd (l.getD i []) (j : Int)).toNat ≤ 4 := by omega
    exact ⟨⟨h1.2, Nat.le_refl _, Nat.one_pos⟩, h1.1⟩
end Go.Proofs.Ytkiloimggmpggaa.L
