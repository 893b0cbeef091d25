/- Texts of one chain, in build order. -/
import Derived.Test.YtkiloimggmpggaaYCondenseSteps17
namespace Go.Proofs.Ytkiloimggmpggaa
open Go.RowKit Go.Proofs.Ytkiloimggmpggaa.P Go.Proofs.Ytkiloimggmpggaa.L Go.Proofs.YtkiloimggmpggaaW.PrintWords Go.Proofs.YtkiloimggmpggaaW.PrintLast Go.Proofs.YtkiloimggmpggaaW.PrintMore
set_option linter.unusedVariables false

/-- What a good table holds. -/
theorem weights_ok {t : List (List Int)} (hb : weightsB t = true) : (1 ≤ t.length ∧ t.length ≤ 4) ∧ (∀ i, i < t.length → (t.getD i []).length = t.length) ∧ ∀ i j : Nat, i < t.length → j < t.length → 1 ≤ rd (t.getD i []) (j : Int) ∧ rd (t.getD i []) (j : Int) ≤ 4 := by
 unfold weightsB squareB at hb
 simp only [Bool.and_eq_true] at hb
 obtain ⟨w1, w2, w3⟩ := hb
 have w4 := (inB_iff _ _ _).1 w1
 have hTr : ∀ i, i < t.length → (t.getD i []).length = t.length := fun i hi => by
  rw [getD_at t [] i hi]
  exact beq_iff_eq.1 (List.all_eq_true.1 w2 _ (List.getElem_mem hi))
 refine ⟨by omega, hTr, fun i j hi hj => ?_⟩
 have hlen := hTr i hi
 rw [getD_at t [] i hi] at hlen ⊢
 have h5 := List.all_eq_true.1 w3 _ (List.getElem_mem hi)
 rw [L.rd_at _ _ (by omega)]
 exact (inB_iff _ _ _).1 (List.all_eq_true.1 h5 _ (List.getElem_mem _))
def tabsQ (l0 : List (List Int)) (a1 : Int) : List (List (List Q)) := stepsQ a1.toNat (l0.length - 1) (bef0 l0.length) (now0 l0)
def cdOk (l0 : List (List Int)) (a1 : Int) : Prop := weightsB l0 = true ∧ 0 ≤ a1 ∧ a1 ≤ 3
instance (l0 : List (List Int)) (a1 : Int) : Decidable (cdOk l0 a1) := by unfold cdOk; infer_instance
def spec_weSteps.f (l0 : List (List Int)) (a1 : Int) : Option (List (List (S25))) := if cdOk l0 a1 then some ((tabsQ l0 a1).map flat) else none
theorem spec_weSteps.calls (A0 : Option Addr) (c0 : Nat) (l0 : List (List Int)) (a1 : Int) (r : List (List (S25))) (w : World) (hr0 : Kd.C (Kd.slice 3 (Kd.int .i64)) w A0 l0.length l0) (hc0 : l0.length ≤ c0) (h : spec_weSteps.f l0 a1 = some r) :
  Calls Try.prog 40 #[.slice A0 l0.length c0, .int .i64 a1] w fun e w' => ∃ v0_ : Value, e = .returned (v0_) ∧ Kd.N (Kd.slice 25 k25) 53 w' w.heap.size (fun k_ => (w.heap.size ≤ k_)) v0_ r ∧ Below w.heap.size w w' := by
 unfold spec_weSteps.f at h
 split at h
 case isFalse => cases h
 rename_i hk
 obtain rfl := Option.some.inj h
 obtain ⟨hb, h0, h3⟩ := hk
 obtain ⟨h4, hTr, hTe⟩ := weights_ok hb
 obtain ⟨lam, rfl⟩ := Int.eq_ofNat_of_zero_le h0
 have := spec_weSteps.callsG A0 c0 l0 lam (by omega) w hr0 hc0 h4.1 h4.2 hTr hTe
 unfold tabsQ
 rw [Int.toNat_natCast]
 exact this
def impl_condense.f (l0 : List (List Int)) (a1 : Int) : Option (List (List (List (S25)))) := if cdOk l0 a1 then some ((tabsQ l0 a1).map tS) else none
theorem impl_condense.calls (A0 : Option Addr) (c0 : Nat) (l0 : List (List Int)) (a1 : Int) (r : List (List (List (S25)))) (w : World) (hr0 : Kd.C (Kd.slice 3 (Kd.int .i64)) w A0 l0.length l0) (hc0 : l0.length ≤ c0) (h : impl_condense.f l0 a1 = some r) :
  Calls Try.prog 41 #[.slice A0 l0.length c0, .int .i64 a1] w fun e w' => ∃ v0_ : Value, e = .returned (v0_) ∧ Kd.V (Kd.slice 53 (Kd.slice 25 k25)) 32 w' w.heap.size (fun k_ => (w.heap.size ≤ k_)) v0_ r ∧ Below w.heap.size w w' := by
 unfold impl_condense.f at h
 split at h
 case isFalse => cases h
 rename_i hk
 obtain rfl := Option.some.inj h
 obtain ⟨hb, h0, h3⟩ := hk
 obtain ⟨h4, hTr, hTe⟩ := weights_ok hb
 obtain ⟨lam, rfl⟩ := Int.eq_ofNat_of_zero_le h0
 have := impl_condense.callsG A0 c0 l0 lam (by omega) w hr0 hc0 h4.1 h4.2 hTr hTe
 unfold tabsQ
 rw [Int.toNat_natCast]
 refine this.mono ?_
 rintro e w1 ⟨v, rfl, hN, hb⟩
 exact ⟨v, rfl, Kd.N_V hN, hb⟩
end Go.Proofs.Ytkiloimggmpggaa

namespace Go.Proofs.Ytkiloimggmpggaa.P
open Go.RowKit Go.Proofs.YtkiloimggmpggaaW.PrintWords Go.Proofs.YtkiloimggmpggaaW.PrintLast Go.Proofs.YtkiloimggmpggaaW.PrintMore
attribute [local go_sem] max2_int min2_int max_two min_two max_three min_three max_four min_four   -- for this text's walks alone
set_option linter.unusedVariables false
set_option linter.unusedSimpArgs false

def laws_eqRatio.f (a0_0 : Int) (a0_1 : Int) (a1_0 : Int) (a1_1 : Int) : Option (Bool) := if a0_0 = a1_0 then (if a0_1 = a1_1 then (some true) else (some false)) else (some false)
set_option maxHeartbeats 8000000 in
set_option maxRecDepth 100000 in
theorem laws_eqRatio.calls (a0_0 : Int) (a0_1 : Int) (a1_0 : Int) (a1_1 : Int) (r : Bool) (w : World) (h : laws_eqRatio.f a0_0 a0_1 a1_0 a1_1 = some r) :
  Calls Try.prog 10 #[.agg #[.int .i64 a0_0, .int .i64 a0_1], .agg #[.int .i64 a1_0, .int .i64 a1_1]] w fun e w' => e = .returned (.bool r) ∧ Below w.heap.size w w' := by
 have hu25 := Try.underlying25
 have HB := Aside0.mk (Below.refl w.heap.size w)
 have H : (if a0_0 = a1_0 then (if a0_1 = a1_1 then (some true) else (some false)) else (some false)) = some r := h
 clear h
 by_cases c3 : a0_0 = a1_0
 ·rw [if_pos c3] at H
  have c3b0 : (a0_0 == a1_0) = true := beq_iff_eq.mpr c3
  have c3b1 : (a0_0 != a1_0) = false := bne_eq_false_iff_eq.mpr c3
  clear c3
  by_cases c4 : a0_1 = a1_1
  ·rw [if_pos c4] at H
   have c4b0 : (a0_1 == a1_1) = true := beq_iff_eq.mpr c4
   have c4b1 : (a0_1 != a1_1) = false := bne_eq_false_iff_eq.mpr c4
   clear c4
   obtain rfl := Option.some.inj H
   go_enter Try.func10, Try.ntmps10
   go_wp2_with (first | ((with_reducible refine gate_dst (N := 2) rfl ?_); refine box_event ?hg (N := 2) ?hd (cs := #[.int .i64 a0_0, .int .i64 a0_1]) (t := 25) ?hr ?_; (case hd => rfl); (case hg => rfl); (case hr => first | (go_simp; done) | (go_simp; rfl)); intro gb231 hg w5 hbox hb; have n0_ := Aside0.mk (below_step (by repeat (first | (with_reducible first | exact HB.out | apply below_alloc | apply pw_below_drewN | apply below_drew1) | exact HB.out)) hb); have n1_ := Aside0.mk (hbox); have n2_ := Aside0.mk ((by rw [hg]; exact (below_size (by repeat (first | (with_reducible first | exact HB.out | apply below_alloc | apply pw_below_drewN | apply below_drew1) | exact HB.out))) : w.heap.size ≤ gb231)); have n3_ := Aside0.mk ((by rw [hg]; exact (below_size (by repeat (first | (with_reducible first | exact HB.out | apply below_alloc | apply pw_below_drewN | apply below_drew1) | exact HB.out))) : w.heap.size ≤ gb231)); clear HB; have HB := n0_; have BK231 := n1_; have GW231 := n2_; have GE231 := n3_; clear n0_ n1_ n2_ n3_; clear hb hbox hg) | ((with_reducible refine gate_dst (N := 3) rfl ?_); refine box_event ?hg (N := 3) ?hd (cs := #[.int .i64 a1_0, .int .i64 a1_1]) (t := 25) ?hr ?_; (case hd => rfl); (case hg => rfl); (case hr => first | (go_simp; done) | (go_simp; rfl)); intro gb232 hg w6 hbox hb; have n0_ := Aside0.mk (blk_below (g := gb231) (o := .cells #[.int .i64 a0_0, .int .i64 a0_1] 25 (0, 0)) (by (with_reducible repeat (first | refine blk_drewN ?_ _ | refine blk_drew ?_ | refine blk_alloc ?_ _)); exact BK231.out) hb); have n1_ := Aside0.mk (below_step (by repeat (first | (with_reducible first | exact HB.out | apply below_alloc | apply pw_below_drewN | apply below_drew1 | refine below_set ?_ GE231.out) | exact HB.out)) hb); have n2_ := Aside0.mk (hbox); have n3_ := Aside0.mk ((by rw [hg]; exact (below_size (by repeat (first | (with_reducible first | exact HB.out | apply below_alloc | apply pw_below_drewN | apply below_drew1 | refine below_set ?_ GE231.out) | exact HB.out))) : w.heap.size ≤ gb232)); have n4_ := Aside0.mk ((by rw [hg]; exact (below_size (by repeat (first | (with_reducible first | exact HB.out | apply below_alloc | apply pw_below_drewN | apply below_drew1 | refine below_set ?_ GE231.out) | exact HB.out))) : w.heap.size ≤ gb232)); have n5_ := Aside0.mk ((by rw [hg]; exact Nat.ne_of_lt (blk_lt (g := gb231) (o := .cells #[.int .i64 a0_0, .int .i64 a0_1] 25 (0, 0)) (by (with_reducible repeat (first | refine blk_drewN ?_ _ | refine blk_drew ?_ | refine blk_alloc ?_ _)); exact BK231.out)) : gb231 ≠ gb232)); have n6_ := Aside0.mk ((by rw [hg]; exact Nat.ne_of_gt (blk_lt (g := gb231) (o := .cells #[.int .i64 a0_0, .int .i64 a0_1] 25 (0, 0)) (by (with_reducible repeat (first | refine blk_drewN ?_ _ | refine blk_drew ?_ | refine blk_alloc ?_ _)); exact BK231.out)) : gb232 ≠ gb231)); clear BK231; clear HB; have BK231 := n0_; have HB := n1_; have BK232 := n2_; have GW232 := n3_; have GE232 := n4_; have NB231_232 := n5_; have NB232_231 := n6_; clear n0_ n1_ n2_ n3_ n4_ n5_ n6_; clear hb hbox hg; have hnb7 := NB231_232.out; have hnc7 := NB232_231.out; have hcz8_0 : w6.cell? ⟨gb231, 0, none⟩ = some (.int .i64 a0_0) := (blk_cell BK231.out 0).trans rfl; have hcz8_1 : w6.cell? ⟨gb231, 1, none⟩ = some (.int .i64 a0_1) := (blk_cell BK231.out 1).trans rfl; have hfz8_0 := blk_frozen BK231.out 0; have hfz8_1 := blk_frozen BK231.out 1; have hcz9_0 : w6.cell? ⟨gb232, 0, none⟩ = some (.int .i64 a1_0) := (blk_cell BK232.out 0).trans rfl; have hcz9_1 : w6.cell? ⟨gb232, 1, none⟩ = some (.int .i64 a1_1) := (blk_cell BK232.out 1).trans rfl; have hfz9_0 := blk_frozen BK232.out 0; have hfz9_1 := blk_frozen BK232.out 1))
   go_ret
   exact ⟨by first | rfl | (simp [errW_none, errW_some] <;> rfl) | (simp [*, errW_none, errW_some] <;> rfl), by repeat (first | (with_reducible first | exact HB.out | apply below_alloc | apply pw_below_drewN | apply below_drew1 | refine below_set ?_ GE231.out | refine below_set ?_ GE232.out) | exact HB.out)⟩
  ·rw [if_neg c4] at H
   have c4b0 : (a0_1 == a1_1) = false := beq_eq_false_iff_ne.mpr c4
   have c4b1 : (a0_1 != a1_1) = true := bne_iff_ne.mpr c4
   obtain rfl := Option.some.inj H
   go_enter Try.func10, Try.ntmps10
   go_wp2_with (first | ((with_reducible refine gate_dst (N := 2) rfl ?_); refine box_event ?hg (N := 2) ?hd (cs := #[.int .i64 a0_0, .int .i64 a0_1]) (t := 25) ?hr ?_; (case hd => rfl); (case hg => rfl); (case hr => first | (go_simp; done) | (go_simp; rfl)); intro gb231 hg w10 hbox hb; have n0_ := Aside0.mk (below_step (by repeat (first | (with_reducible first | exact HB.out | apply below_alloc | apply pw_below_drewN | apply below_drew1) | exact HB.out)) hb); have n1_ := Aside0.mk (hbox); have n2_ := Aside0.mk ((by rw [hg]; exact (below_size (by repeat (first | (with_reducible first | exact HB.out | apply below_alloc | apply pw_below_drewN | apply below_drew1) | exact HB.out))) : w.heap.size ≤ gb231)); have n3_ := Aside0.mk ((by rw [hg]; exact (below_size (by repeat (first | (with_reducible first | exact HB.out | apply below_alloc | apply pw_below_drewN | apply below_drew1) | exact HB.out))) : w.heap.size ≤ gb231)); clear HB; have HB := n0_; have BK231 := n1_; have GW231 := n2_; have GE231 := n3_; clear n0_ n1_ n2_ n3_; clear hb hbox hg) | ((with_reducible refine gate_dst (N := 3) rfl ?_); refine box_event ?hg (N := 3) ?hd (cs := #[.int .i64 a1_0, .int .i64 a1_1]) (t := 25) ?hr ?_; (case hd => rfl); (case hg => rfl); (case hr => first | (go_simp; done) | (go_simp; rfl)); intro gb232 hg w11 hbox hb; have n0_ := Aside0.mk (blk_below (g := gb231) (o := .cells #[.int .i64 a0_0, .int .i64 a0_1] 25 (0, 0)) (by (with_reducible repeat (first | refine blk_drewN ?_ _ | refine blk_drew ?_ | refine blk_alloc ?_ _)); exact BK231.out) hb); have n1_ := Aside0.mk (below_step (by repeat (first | (with_reducible first | exact HB.out | apply below_alloc | apply pw_below_drewN | apply below_drew1 | refine below_set ?_ GE231.out) | exact HB.out)) hb); have n2_ := Aside0.mk (hbox); have n3_ := Aside0.mk ((by rw [hg]; exact (below_size (by repeat (first | (with_reducible first | exact HB.out | apply below_alloc | apply pw_below_drewN | apply below_drew1 | refine below_set ?_ GE231.out) | exact HB.out))) : w.heap.size ≤ gb232)); have n4_ := Aside0.mk ((by rw [hg]; exact (below_size (by repeat (first | (with_reducible first | exact HB.out | apply below_alloc | apply pw_below_drewN | apply below_drew1 | refine below_set ?_ GE231.out) | exact HB.out))) : w.heap.size ≤ gb232)); have n5_ := Aside0.mk ((by rw [hg]; exact Nat.ne_of_lt (blk_lt (g := gb231) (o := .cells #[.int .i64 a0_0, .int .i64 a0_1] 25 (0, 0)) (by (with_reducible repeat (first | refine blk_drewN ?_ _ | refine blk_drew ?_ | refine blk_alloc ?_ _)); exact BK231.out)) : gb231 ≠ gb232)); have n6_ := Aside0.mk ((by rw [hg]; exact Nat.ne_of_gt (blk_lt (g := gb231) (o := .cells #[.int .i64 a0_0, .int .i64 a0_1] 25 (0, 0)) (by (with_reducible repeat (first | refine blk_drewN ?_ _ | refine blk_drew ?_ | refine blk_alloc ?_ _)); exact BK231.out)) : gb232 ≠ gb231)); clear BK231; clear HB; have BK231 := n0_; have HB := n1_; have BK232 := n2_; have GW232 := n3_; have GE232 := n4_; have NB231_232 := n5_; have NB232_231 := n6_; clear n0_ n1_ n2_ n3_ n4_ n5_ n6_; clear hb hbox hg; have hnb12 := NB231_232.out; have hnc12 := NB232_231.out; have hcz13_0 : w11.cell? ⟨gb231, 0, none⟩ = some (.int .i64 a0_0) := (blk_cell BK231.out 0).trans rfl; have hcz13_1 : w11.cell? ⟨gb231, 1, none⟩ = some (.int .i64 a0_1) := (blk_cell BK231.out 1).trans rfl; have hfz13_0 := blk_frozen BK231.out 0; have hfz13_1 := blk_frozen BK231.out 1; have hcz14_0 : w11.cell? ⟨gb232, 0, none⟩ = some (.int .i64 a1_0) := (blk_cell BK232.out 0).trans rfl; have hcz14_1 : w11.cell? ⟨gb232, 1, none⟩ = some (.int .i64 a1_1) := (blk_cell BK232.out 1).trans rfl; have hfz14_0 := blk_frozen BK232.out 0; have hfz14_1 := blk_frozen BK232.out 1))
   go_ret
   exact ⟨by first | rfl | (simp [errW_none, errW_some] <;> rfl) | (simp [*, errW_none, errW_some] <;> rfl), by repeat (first | (with_reducible first | exact HB.out | apply below_alloc | apply pw_below_drewN | apply below_drew1 | refine below_set ?_ GE231.out | refine below_set ?_ GE232.out) | exact HB.out)⟩
 ·rw [if_neg c3] at H
  have c3b0 : (a0_0 == a1_0) = false := beq_eq_false_iff_ne.mpr c3
  have c3b1 : (a0_0 != a1_0) = true := bne_iff_ne.mpr c3
  obtain rfl := Option.some.inj H
  go_enter Try.func10, Try.ntmps10
  go_wp2_with (first | ((with_reducible refine gate_dst (N := 2) rfl ?_); refine box_event ?hg (N := 2) ?hd (cs := #[.int .i64 a0_0, .int .i64 a0_1]) (t := 25) ?hr ?_; (case hd => rfl); (case hg => rfl); (case hr => first | (go_simp; done) | (go_simp; rfl)); intro gb231 hg w15 hbox hb; have n0_ := Aside0.mk (below_step (by repeat (first | (with_reducible first | exact HB.out | apply below_alloc | apply pw_below_drewN | apply below_drew1) | exact HB.out)) hb); have n1_ := Aside0.mk (hbox); have n2_ := Aside0.mk ((by rw [hg]; exact (below_size (by repeat (first | (with_reducible first | exact HB.out | apply below_alloc | apply pw_below_drewN | apply below_drew1) | exact HB.out))) : w.heap.size ≤ gb231)); have n3_ := Aside0.mk ((by rw [hg]; exact (below_size (by repeat (first | (with_reducible first | exact HB.out | apply below_alloc | apply pw_below_drewN | apply below_drew1) | exact HB.out))) : w.heap.size ≤ gb231)); clear HB; have HB := n0_; have BK231 := n1_; have GW231 := n2_; have GE231 := n3_; clear n0_ n1_ n2_ n3_; clear hb hbox hg) | ((with_reducible refine gate_dst (N := 3) rfl ?_); refine box_event ?hg (N := 3) ?hd (cs := #[.int .i64 a1_0, .int .i64 a1_1]) (t := 25) ?hr ?_; (case hd => rfl); (case hg => rfl); (case hr => first | (go_simp; done) | (go_simp; rfl)); intro gb232 hg w16 hbox hb; have n0_ := Aside0.mk (blk_below (g := gb231) (o := .cells #[.int .i64 a0_0, .int .i64 a0_1] 25 (0, 0)) (by (with_reducible repeat (first | refine blk_drewN ?_ _ | refine blk_drew ?_ | refine blk_alloc ?_ _)); exact BK231.out) hb); have n1_ := Aside0.mk (below_step (by repeat (first | (with_reducible first | exact HB.out | apply below_alloc | apply pw_below_drewN | apply below_drew1 | refine below_set ?_ GE231.out) | exact HB.out)) hb); have n2_ := Aside0.mk (hbox); have n3_ := Aside0.mk ((by rw [hg]; exact (below_size (by repeat (first | (with_reducible first | exact HB.out | apply below_alloc | apply pw_below_drewN | apply below_drew1 | refine below_set ?_ GE231.out) | exact HB.out))) : w.heap.size ≤ gb232)); have n4_ := Aside0.mk ((by rw [hg]; exact (below_size (by repeat (first | (with_reducible first | exact HB.out | apply below_alloc | apply pw_below_drewN | apply below_drew1 | refine below_set ?_ GE231.out) | exact HB.out))) : w.heap.size ≤ gb232)); have n5_ := Aside0.mk ((by rw [hg]; exact Nat.ne_of_lt (blk_lt (g := gb231) (o := .cells #[.int .i64 a0_0, .int .i64 a0_1] 25 (0, 0)) (by (with_reducible repeat (first | refine blk_drewN ?_ _ | refine blk_drew ?_ | refine blk_alloc ?_ _)); exact BK231.out)) : gb231 ≠ gb232)); have n6_ := Aside0.mk ((by rw [hg]; exact Nat.ne_of_gt (blk_lt (g := gb231) (o := .cells #[.int .i64 a0_0, .int .i64 a0_1] 25 (0, 0)) (by (with_reducible repeat (first | refine blk_drewN ?_ _ | refine blk_drew ?_ | refine blk_alloc ?_ _)); exact BK231.out)) : gb232 ≠ gb231)); clear BK231; clear HB; have BK231 := n0_; have HB := n1_; have BK232 := n2_; have GW232 := n3_; have GE232 := n4_; have NB231_232 := n5_; have NB232_231 := n6_; clear n0_ n1_ n2_ n3_ n4_ n5_ n6_; clear hb hbox hg; have hnb17 := NB231_232.out; have hnc17 := NB232_231.out; have hcz18_0 : w16.cell? ⟨gb231, 0, none⟩ = some (.int .i64 a0_0) := (blk_cell BK231.out 0).trans rfl; have hcz18_1 : w16.cell? ⟨gb231, 1, none⟩ = some (.int .i64 a0_1) := (blk_cell BK231.out 1).trans rfl; have hfz18_0 := blk_frozen BK231.out 0; have hfz18_1 := blk_frozen BK231.out 1; have hcz19_0 : w16.cell? ⟨gb232, 0, none⟩ = some (.int .i64 a1_0) := (blk_cell BK232.out 0).trans rfl; have hcz19_1 : w16.cell? ⟨gb232, 1, none⟩ = some (.int .i64 a1_1) := (blk_cell BK232.out 1).trans rfl; have hfz19_0 := blk_frozen BK232.out 0; have hfz19_1 := blk_frozen BK232.out 1))
  go_ret
  exact ⟨by first | rfl | (simp [errW_none, errW_some] <;> rfl) | (simp [*, errW_none, errW_some] <;> rfl), by repeat (first | (with_reducible first | exact HB.out | apply below_alloc | apply pw_below_drewN | apply below_drew1 | refine below_set ?_ GE231.out | refine below_set ?_ GE232.out) | exact HB.out)⟩

end Go.Proofs.Ytkiloimggmpggaa.P

namespace Go.Proofs.Ytkiloimggmpggaa.P
open Go.RowKit Go.Proofs.YtkiloimggmpggaaW.PrintWords Go.Proofs.YtkiloimggmpggaaW.PrintLast Go.Proofs.YtkiloimggmpggaaW.PrintMore
attribute [local go_sem] max2_int min2_int max_two min_two max_three min_three max_four min_four   -- for this text's walks alone
set_option linter.unusedVariables false
set_option linter.unusedSimpArgs false

def impl_isCondensed.f (l0 : List (List Int)) (a1 : Int) : Option (Bool) := (impl_isWeights.f l0).bind fun t229 => (if t229 = true then ((impl_within.f a1 0 3).bind fun t230 => (some t230)) else (some false))
set_option maxHeartbeats 8000000 in
set_option maxRecDepth 100000 in
theorem impl_isCondensed.calls (A0 : Option Addr) (c0 : Nat) (l0 : List (List Int)) (a1 : Int) (r : Bool) (w : World) (hr0 : Kd.C (Kd.slice 3 (Kd.int .i64)) w A0 l0.length l0) (hc0 : l0.length ≤ c0) (h : impl_isCondensed.f l0 a1 = some r) :
  Calls Try.prog 31 #[.slice A0 l0.length c0, .int .i64 a1] w fun e w' => e = .returned (.bool r) ∧ Below w.heap.size w w' := by
 have HR0 := Aside0.mk hr0
 have HC0 := Aside0.mk hc0
 clear hr0 hc0
 have HB := Aside0.mk (Below.refl w.heap.size w)
 have H : ((impl_isWeights.f l0).bind fun t229 => (if t229 = true then ((impl_within.f a1 0 3).bind fun t230 => (some t230)) else (some false))) = some r := h
 clear h
 replace H := Option.bind_eq_some_iff.mp H
 obtain ⟨t229, A30, H⟩ := H
 replace H : (if t229 = true then ((impl_within.f a1 0 3).bind fun t230 => (some t230)) else (some false)) = some r := H
 have A3 := Aside0.mk A30
 clear A30
 by_cases c4 : t229 = true
 ·subst c4
  have H1 : ((impl_within.f a1 0 3).bind fun t230 => (some t230)) = some r := by rw [if_pos rfl] at H; exact H
  clear H
  have H := H1
  clear H1
  replace H := Option.bind_eq_some_iff.mp H
  obtain ⟨t230, A50, H⟩ := H
  replace H : (some t230) = some r := H
  have A5 := Aside0.mk A50
  clear A50
  obtain rfl := Option.some.inj H
  go_enter Try.func31, Try.ntmps31
  go_wp2_with (first | ((with_reducible refine gate_callee (f := 53) rfl ?_); refine goesL_ (some 6) rfl rfl Try.func53 (by kernel_rfl) rfl #[.slice A0 l0.length c0] rfl (by (try simp only [List.map_toArray, List.map_cons, List.map_nil]); first | done | rfl | (simp only [List.length_drop, List.length_take]; rfl)) ?_; (with_reducible refine (impl_isWeights.calls _ _ l0 true _ ?side1 ?side2 A3.out).mono ?_); (case side1 => repeat (first | exact HR0.out | (with_reducible refine Kd.C_alloc ?_ _) | (with_reducible refine Kd.C_drewN ?_ _) | (with_reducible refine Kd.C_drew ?_))); (case side2 => exact HC0.out); rintro e w6 ⟨rfl, hb⟩; refine ⟨_, rfl, ?_⟩; have n0_ := Aside0.mk (below_step (by repeat (first | (with_reducible first | exact HB.out | apply below_alloc | apply pw_below_drewN | apply below_drew1) | exact HB.out)) hb); clear HB; have HB := n0_; clear n0_; (try clear hb); (try clear hb2); (try clear hk); (try clear hi)) | (go_at_call 54; (with_reducible refine (impl_within.calls a1 0 3 t230 _ A5.out).mono ?_); rintro e w' ⟨rfl, ⟨nd, rfl⟩⟩))
  go_ret
  exact ⟨by first | rfl | (simp [errW_none, errW_some] <;> rfl) | (simp [*, errW_none, errW_some] <;> rfl), by repeat (first | (with_reducible first | exact HB.out | apply below_alloc | apply pw_below_drewN | apply below_drew1) | exact HB.out)⟩
 ·replace c4 := Bool.eq_false_iff.mpr c4
  subst c4
  have H1 : (some false) = some r := by rw [if_neg (show ¬ (false = true) by decide)] at H; exact H
  clear H
  have H := H1
  clear H1
  obtain rfl := Option.some.inj H
  go_enter Try.func31, Try.ntmps31
  go_wp2_with (first | ((with_reducible refine gate_callee (f := 53) rfl ?_); refine goesL_ (some 6) rfl rfl Try.func53 (by kernel_rfl) rfl #[.slice A0 l0.length c0] rfl (by (try simp only [List.map_toArray, List.map_cons, List.map_nil]); first | done | rfl | (simp only [List.length_drop, List.length_take]; rfl)) ?_; (with_reducible refine (impl_isWeights.calls _ _ l0 false _ ?side1 ?side2 A3.out).mono ?_); (case side1 => repeat (first | exact HR0.out | (with_reducible refine Kd.C_alloc ?_ _) | (with_reducible refine Kd.C_drewN ?_ _) | (with_reducible refine Kd.C_drew ?_))); (case side2 => exact HC0.out); rintro e w7 ⟨rfl, hb⟩; refine ⟨_, rfl, ?_⟩; have n0_ := Aside0.mk (below_step (by repeat (first | (with_reducible first | exact HB.out | apply below_alloc | apply pw_below_drewN | apply below_drew1) | exact HB.out)) hb); clear HB; have HB := n0_; clear n0_; (try clear hb); (try clear hb2); (try clear hk); (try clear hi)))
  go_ret
  exact ⟨by first | rfl | (simp [errW_none, errW_some] <;> rfl) | (simp [*, errW_none, errW_some] <;> rfl), by repeat (first | (with_reducible first | exact HB.out | apply below_alloc | apply pw_below_drewN | apply below_drew1) | exact HB.out)⟩

end Go.Proofs.Ytkiloimggmpggaa.P

namespace Go.Proofs.Ytkiloimggmpggaa.L
open Go.RowKit Go.Proofs.Ytkiloimggmpggaa Go.Proofs.Ytkiloimggmpggaa.P Go.Proofs.YtkiloimggmpggaaW.PrintWords Go.Proofs.YtkiloimggmpggaaW.PrintLast Go.Proofs.YtkiloimggmpggaaW.PrintMore
set_option linter.unusedVariables false
theorem stepsQ_length (lam : Nat) : ∀ (d : Nat) (bef now : List (List Q)), (stepsQ lam d bef now).length = d + 1
 | 0, _, _ => rfl
 | d + 1, bef, now => by rw [stepsQ, List.length_cons, stepsQ_length lam d]
/-- The last table has one place. -/
theorem last_one (lam : Nat) : ∀ (d : Nat) (bef now : List (List Q)), now.length = d + 1 → (∀ r ∈ now, r.length = d + 1) → ∃ q, (stepsQ lam d bef now)[d]? = some [[q]]
 | 0, bef, now, h1, h2 => by
  obtain ⟨r, rfl⟩ := List.length_eq_one_iff.1 h1
  obtain ⟨q, rfl⟩ := List.length_eq_one_iff.1 (h2 r (by simp))
  exact ⟨q, rfl⟩
 | d + 1, bef, now, h1, h2 => by
  obtain ⟨q, hq⟩ := last_one lam d now (nextQ lam (d + 1) now bef) (by simp [nextQ, rowsQ]) (fun r hr => by
   simp only [nextQ, rowsQ, List.mem_map] at hr
   obtain ⟨i, _, rfl⟩ := hr
   exact rowQ_length _ _ _ _ _)
  exact ⟨q, by rw [stepsQ, List.getElem?_cons_succ]; exact hq⟩
theorem tabs_last (l : List (List Int)) (a1 : Int) (hb : weightsB l = true) : (tabsQ l a1).length = l.length ∧ ∃ q, (tabsQ l a1)[l.length - 1]? = some [[q]] := by
 obtain ⟨h4, hTr, _⟩ := weights_ok hb
 refine ⟨by unfold tabsQ; rw [stepsQ_length]; omega, ?_⟩
 unfold tabsQ
 refine last_one _ _ _ _ (by simp [now0]; omega) (fun r hr => ?_)
 simp only [now0, List.mem_map] at hr
 obtain ⟨r0, h0, rfl⟩ := hr
 obtain ⟨i, hi, rfl⟩ := List.getElem_of_mem h0
 have := hTr i hi
 rw [getD_at l [] i hi] at this
 rw [List.length_map, this]
 omega
end Go.Proofs.Ytkiloimggmpggaa.L
namespace Go.Proofs.Ytkiloimggmpggaa.Law
open Go.RowKit Go.Proofs.Ytkiloimggmpggaa Go.Proofs.Ytkiloimggmpggaa.P Go.Proofs.Ytkiloimggmpggaa.L Go.Proofs.YtkiloimggmpggaaW.PrintWords Go.Proofs.YtkiloimggmpggaaW.PrintLast Go.Proofs.YtkiloimggmpggaaW.PrintMore
set_option linter.unusedVariables false
end Go.Proofs.Ytkiloimggmpggaa.Law

namespace Go.Proofs.Ytkiloimggmpggaa
open Go.RowKit Go.Proofs.Ytkiloimggmpggaa.P Go.Proofs.Ytkiloimggmpggaa.L Go.Proofs.YtkiloimggmpggaaW.PrintWords Go.Proofs.YtkiloimggmpggaaW.PrintLast Go.Proofs.YtkiloimggmpggaaW.PrintMore
set_option linter.unusedVariables false
set_option linter.unusedSimpArgs false

theorem rowsR {w : World} {A : Option Addr} {n : Nat} {xs : List (List S25)} (h : Kd.C (Kd.slice 25 k25) w A n xs) (i : Nat) (h1 : i < n) : ∃ ad A0 c0, A = some ad ∧ w.cell? (ad.add i) = some (.slice A0 (xs.getD i []).length c0) ∧ (xs.getD i []).length ≤ c0 ∧ k25.C w A0 (xs.getD i []).length (xs.getD i []) := by
 have := L.at_R h (i : Int) (by omega) (by omega)
 unfold L.rdR at this
 rw [Int.toNat_natCast] at this
 exact this
/-- Room for n fractions, nothing in it. -/
theorem grow_ratio.callsG (n : Nat) (w : World) (hn : n ≤ 1000000) :
  Calls Try.prog 63 #[.slice none 0 0, .int .i64 n] w fun e w' => ∃ v0_ : Value, e = .returned (v0_) ∧ Kd.R k25 25 w' w.heap.size (fun _ => True) v0_ [] ∧ Below w.heap.size w w' := by
 have hz0 : ¬ (n : Int) < 0 := by omega
 have HB := Aside0.mk (Below.refl w.heap.size w)
 by_cases h0 : n = 0
 ·have hz1 : ¬ (n : Int) > 0 := by omega
  clear h0
  go_enter Try.func63, Try.ntmps63
  go_wp2
  go_ret
  exact ⟨_, rfl, Kd.R_nil _ _ _ _ _, HB.out⟩
 ·have hz1 : (n : Int) > 0 := by omega
  have HN := Aside0.mk hn
  clear h0
  go_enter Try.func63, Try.ntmps63
  go_wp2_with ((with_reducible refine gate_builtin (b := .append) (xs := #[.tmp 20, .tmp 21]) rfl ?_); at_builtin; refine Kd.R_append_zeros k25 (w0 := w) w.heap.size rfl (.tmp 20) (.tmp 21) 53 3 25 (.agg #[.int .i64 0, .int .i64 0]) 16 rfl Try.underlying53 Try.underlying3 info_ratio rfl (by decide) (by omega) (.slice none 0 0) [] z25 (n : Int) (fun _ => True) rfl rfl ⟨_, _, rfl, rfl, rfl⟩ (fun _ _ => trivial) (Kd.R_nil _ _ _ _ _) (by omega) HB.out (Nat.le_refl _) (by have := HN.out; simp; omega) ?_; intro v1 w1 ho hb hg hat; obtain ⟨A1, c1, rfl⟩ := Kd.R_slice ho; have HO := Aside0.mk (Kd.R_take (m := 0) ho (Nat.zero_le _)); have HB1 := Aside0.mk hb; clear ho hb hg hat)
  go_ret
  exact ⟨_, rfl, HO.out, HB1.out⟩
def catR (l : List (List S25)) (i : Nat) : List S25 := (l.take i).flatten
theorem catR_succ (l : List (List S25)) (i : Nat) (h : i < l.length) : catR l (i + 1) = catR l i ++ l.getD i [] := by
 unfold catR
 rw [List.take_succ_eq_append_getElem h, List.flatten_append, List.getD_eq_getElem?_getD, List.getElem?_eq_getElem h]
 simp
def catN (l : List (List S25)) : Nat → Nat
 | 0 => 0
 | i + 1 => catN l i + (l.getD i []).length
theorem catR_length (l : List (List S25)) : ∀ i, i ≤ l.length → (catR l i).length = catN l i
 | 0, _ => by simp [catR, catN]
 | i + 1, h => by rw [catR_succ l i (by omega), List.length_append, catR_length l i (by omega), catN]
def impl_Ratio_42.f (l0 : List (List S25)) : Option (List S25) := if l0.length ≤ 1000 ∧ (l0.all fun r => decide (r.length ≤ 1000)) = true then some l0.flatten else none
set_option maxHeartbeats 4000000 in
theorem impl_Ratio_42.calls (A0 : Option Addr) (c0 : Nat) (l0 : List (List S25)) (r : List S25) (w : World) (hr0 : Kd.C (Kd.slice 25 k25) w A0 l0.length l0) (hc0 : l0.length ≤ c0) (h : impl_Ratio_42.f l0 = some r) :
  Calls Try.prog 42 #[.slice A0 l0.length c0] w fun e w' => ∃ v0_ : Value, e = .returned (v0_) ∧ Kd.R k25 25 w' w.heap.size (fun _ => True) v0_ r ∧ Below w.heap.size w w' := by
 unfold impl_Ratio_42.f at h
 by_cases hc : l0.length ≤ 1000 ∧ (l0.all fun r => decide (r.length ≤ 1000)) = true
 ·rw [if_pos hc] at h
  obtain rfl := Option.some.inj h
  clear h
  obtain ⟨hl, hall⟩ := hc
  have hrl : ∀ i, (l0.getD i []).length ≤ 1000 := fun i => by
   rw [List.getD_eq_getElem?_getD]
   rcases Nat.lt_or_ge i l0.length with hi | hi
   ·rw [List.getElem?_eq_getElem hi]; exact of_decide_eq_true (List.all_eq_true.1 hall _ (List.getElem_mem hi))
   ·rw [List.getElem?_eq_none hi]; simp
  have hcl : ∀ i, catN l0 i ≤ 1000 * i := fun i => by
   induction i with
   | zero => simp [catN]
   | succ i ih => have := hrl i; rw [catN]; omega
  have HRL := Aside0.mk hrl
  have HCL := Aside0.mk hcl
  have HR0 := Aside0.mk hr0
  have HB := Aside0.mk (Below.refl w.heap.size w)
  clear hr0 hall hrl hcl hc0
  go_enter Try.func42, Try.ntmps42
  go_wp2
  go_loop [3, 5, 11] (fun s3 s5 s11 => ∃ i : Nat, i ≤ l0.length ∧ s11 = .int .i64 i ∧ s3 = .int .i64 (catN l0 i : Nat)) (fun _ _ s11 => l0.length - (intOf s11).toNat)
  case atStart => exact ⟨0, Nat.zero_le _, rfl, rfl⟩
  case round =>
   obtain ⟨i, hi, rfl, rfl⟩ := hrel
   by_cases hlt : i < l0.length
   ·have hz : (i : Int) < (l0.length : Int) := by omega
    obtain ⟨ad, Ar, cr, e0, hx, _, hrow⟩ := rowsR HR0.out i hlt
    cases e0
    have hr1 := HRL.out i
    have hr2 := HCL.out i
    have HE := Aside0.mk (show catN l0 (i + 1) = catN l0 i + (l0.getD i []).length from rfl)
    obtain ⟨n1, hn1⟩ : ∃ n, n = (l0.getD i []).length := ⟨_, rfl⟩
    obtain ⟨n2, hn2⟩ : ∃ n, n = catN l0 i := ⟨_, rfl⟩
    rw [← hn1] at hx hr1 HE
    rw [← hn2] at hr2 HE ⊢
    have hz2 : ¬ (n2 : Int) + (n1 : Int) < 0 := by omega
    have hb2 : (n2 : Int) + (n1 : Int) ≤ 2000000 := by omega
    clear hrow hn1 hn2
    go_wp2
    go_round
    case rel => exact ⟨i + 1, by omega, by go_num, by rw [HE.out]; go_num⟩
    case measure => simp [intOf]; omega
   ·have hz : ¬ (i : Int) < (l0.length : Int) := by omega
    obtain rfl : i = l0.length := by omega
    have hr2 := HCL.out l0.length
    obtain ⟨n3, hn3⟩ : ∃ n, n = catN l0 l0.length := ⟨_, rfl⟩
    rw [← hn3] at hr2 ⊢
    have HG := Aside0.mk (grow_ratio.callsG n3 w (by omega))
    clear hr2 hn3
    go_wp2_with (go_at_call 63; refine HG.out.mono ?_; rintro e w1 ⟨v, rfl, hS, hb⟩; have HS := Aside0.mk hS; have HB1 := Aside0.mk hb; clear hS hb)
    go_loopg [6, 8, 27] l0.length (fun gg s6 s8 s27 wr => ∃ j : Nat, j ≤ l0.length ∧ l0.length - j ≤ gg ∧ s27 = .int .i64 j ∧ Aside0 (Kd.R k25 25 wr w.heap.size (fun _ => True) s6 (catR l0 j)) ∧ Aside0 (Below w.heap.size w wr))
    case atStart => exact ⟨0, Nat.zero_le _, Nat.le_refl _, rfl, ⟨by unfold catR; simp; exact HS.out⟩, HB1⟩
    case round =>
     clear HS HB1 HB hz hlt hi HG
     obtain ⟨j, hj, hgj, rfl, HS, HB⟩ := hrel
     by_cases hlt : j < l0.length
     ·have hz : (j : Int) < (l0.length : Int) := by omega
      obtain ⟨ad', Ar, cr, e0, hx, _, hrow⟩ := rowsR HR0.out j hlt
      cases e0
      replace hx := pw_cell_below HB.out hx
      have HRW := Aside0.mk (Kd.C_below hrow HB.out)
      have HEX := Aside0.mk (catR_succ l0 j hlt)
      have HLN := Aside0.mk (show (catR l0 j).length + (l0.getD j []).length ≤ 2000000 by
       have h1 := catR_length l0 j hj
       have h2 := HCL.out j
       have h3 := HRL.out j
       omega)
      obtain ⟨row, hrw⟩ : ∃ r, r = l0.getD j [] := ⟨_, rfl⟩
      rw [← hrw] at hx HRW HEX HLN
      obtain ⟨acc, hacc⟩ : ∃ r, r = catR l0 j := ⟨_, rfl⟩
      rw [← hacc] at HS HEX HLN
      clear hrow hrw hacc
      obtain ⟨v6, hv6⟩ : ∃ v, v = u6 := ⟨_, rfl⟩
      subst hv6
      go_wp2_with ((with_reducible refine gate_builtin (b := .append) (xs := #[.tmp 31, .tmp 32]) rfl ?_); at_builtin; refine Kd.R_append_rows k25 (w0 := w) w.heap.size rfl (.tmp 31) (.tmp 32) 53 25 (.agg #[.int .i64 0, .int .i64 0]) 16 rfl Try.underlying53 info_ratio rfl (by decide) (by omega) v6 acc row _ _ _ (fun _ => True) (fun _ => False) rfl rfl HS.out HRW.out (fun _ _ h => by obtain ⟨_, _, rfl, rfl, rfl⟩ := h; exact ⟨_, _, rfl, rfl, rfl⟩) (fun _ h => h.elim) (fun _ _ => trivial) HB.out (below_size HB.out) (by have := HLN.out; omega) ?_; intro v105 w5 ho hb hg hat; rw [← HEX.out] at ho; have HS2 := Aside0.mk ho; have HB2 := Aside0.mk hb; clear ho hb hg hat)
      go_roundg (l0.length - (j + 1))
      case measure => omega
      case rel => exact ⟨j + 1, by omega, by omega, by go_num, HS2, HB2⟩
     ·have hz : ¬ (j : Int) < (l0.length : Int) := by omega
      have HF := Aside0.mk (show Kd.R k25 25 _ w.heap.size (fun _ => True) _ l0.flatten by
       have := HS.out
       unfold catR at this
       rw [List.take_of_length_le (by omega)] at this
       exact this)
      clear HS
      go_wp2
      go_ret
      exact ⟨_, rfl, HF.out, HB.out⟩
 ·rw [if_neg hc] at h
  cases h
end Go.Proofs.Ytkiloimggmpggaa
