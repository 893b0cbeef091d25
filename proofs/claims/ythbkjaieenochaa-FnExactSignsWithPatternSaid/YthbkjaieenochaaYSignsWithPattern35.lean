/- Texts of one chain, in build order. -/
import Derived.Test.YthbkjaieenochaaYSignsWithPattern34
namespace Go.Proofs.Ythbkjaieenochaa.P
open Go.RowKit Go.Proofs.YthbkjaieenochaaW.PrintWords Go.Proofs.YthbkjaieenochaaW.PrintLast Go.Proofs.YthbkjaieenochaaW.PrintMore
attribute [local go_sem] max2_int min2_int max_two min_two max_three min_three max_four min_four   -- for this text's walks alone
set_option linter.unusedVariables false
set_option linter.unusedSimpArgs false

def impl_Loops_fromEnd.f (k : Nat) (a0_0 : Int) (l0_1 : List (List Int)) (l0_2 : List (List Int)) (a1 : Int) : Option ((List (List Int)) × Int) := (impl_ends.f k a0_0).bind fun t331 => (if 0 ≤ a1 then (if a1 < (t331.length : Int) then (if 1 < ((rd_L1 t331 a1).length : Int) then (if 2 < ((rd_L1 t331 a1).length : Int) then (if 0 < ((rd_L1 t331 a1).length : Int) then ((impl_Loops_follow.f a0_0 l0_1 l0_2 (rd (rd_L1 t331 a1) 1) (rd (rd_L1 t331 a1) 2) (rd (rd_L1 t331 a1) 0)).bind fun bt338 => (some (bt338.1, bt338.2))) else (none)) else (none)) else (none)) else (none)) else (none))
def impl_Loops_fromEnd.T2 : Bool × List (List Nat × List Nat) := (true, [([], []), ([], []), ([1], [1]), ([2], [2]), ([], []), ([4], [4]), ([5], [5]), ([], []), ([7], [7]), ([8], [8]), ([0, 3, 6, 9], [0, 3, 6, 9]), ([10], [10]), ([10], [10]), ([11, 10, 0, 1, 2, 3, 4, 5, 6, 7, 8, 9, 10, 11, 12], [11]), ([12, 13, 0, 1, 2, 3, 4, 5, 6, 7, 8, 9, 10, 11, 12, 13], [12])])
def impl_Loops_fromEnd.B2 : List Nat := [0, 0, 2, 6, 0, 16, 48, 0, 128, 384, 1023, 2047, 2047, 8191, 16383]
theorem impl_Loops_fromEnd.tab2 : rtab .any (opsOf Try.f47 2) = impl_Loops_fromEnd.T2 := by kernel_rfl
theorem impl_Loops_fromEnd.bits2 : waitsOk impl_Loops_fromEnd.T2.2 impl_Loops_fromEnd.B2 = true := by kernel_rfl
set_option maxHeartbeats 8000000 in
set_option maxRecDepth 100000 in
theorem impl_Loops_fromEnd.calls (k : Nat) (a0_0 : Int) (A0_1 : Option Addr) (c0_1 : Nat) (l0_1 : List (List Int)) (A0_2 : Option Addr) (c0_2 : Nat) (l0_2 : List (List Int)) (a1 : Int) (r1 : List (List Int)) (r2 : Int) (w : World) (hr0_1 : Kd.C (Kd.slice 3 (Kd.int .i64)) w A0_1 l0_1.length l0_1) (hc0_1 : l0_1.length ≤ c0_1) (hr0_2 : Kd.C (Kd.slice 3 (Kd.int .i64)) w A0_2 l0_2.length l0_2) (hc0_2 : l0_2.length ≤ c0_2) (h : impl_Loops_fromEnd.f k a0_0 l0_1 l0_2 a1 = some (r1, r2)) :
  Calls Try.prog 47 #[.agg #[.int .i64 a0_0, .slice A0_1 l0_1.length c0_1, .slice A0_2 l0_2.length c0_2], .int .i64 a1] w fun e w' => ∃ v0_ : Value, e = .returned (.tuple #[v0_, .int .i64 r2]) ∧ Kd.S (Kd.slice 3 (Kd.int .i64)) 28 w' w.heap.size (fun _ => True) v0_ r1 ∧ Below w.heap.size w w' := by
 have hu50 := Try.underlying50
 have HR0_1 := Aside0.mk hr0_1
 have HC0_1 := Aside0.mk hc0_1
 clear hr0_1 hc0_1
 have HR0_2 := Aside0.mk hr0_2
 have HC0_2 := Aside0.mk hc0_2
 clear hr0_2 hc0_2
 have HB := Aside0.mk (Below.refl w.heap.size w)
 have H : ((impl_ends.f k a0_0).bind fun t331 => (if 0 ≤ a1 then (if a1 < (t331.length : Int) then (if 1 < ((rd_L1 t331 a1).length : Int) then (if 2 < ((rd_L1 t331 a1).length : Int) then (if 0 < ((rd_L1 t331 a1).length : Int) then ((impl_Loops_follow.f a0_0 l0_1 l0_2 (rd (rd_L1 t331 a1) 1) (rd (rd_L1 t331 a1) 2) (rd (rd_L1 t331 a1) 0)).bind fun bt338 => (some (bt338.1, bt338.2))) else (none)) else (none)) else (none)) else (none)) else (none))) = some (r1, r2) := h
 clear h
 replace H := Option.bind_eq_some_iff.mp H
 obtain ⟨t331, A30, H⟩ := H
 replace H : (if 0 ≤ a1 then (if a1 < (t331.length : Int) then (if 1 < ((rd_L1 t331 a1).length : Int) then (if 2 < ((rd_L1 t331 a1).length : Int) then (if 0 < ((rd_L1 t331 a1).length : Int) then ((impl_Loops_follow.f a0_0 l0_1 l0_2 (rd (rd_L1 t331 a1) 1) (rd (rd_L1 t331 a1) 2) (rd (rd_L1 t331 a1) 0)).bind fun bt338 => (some (bt338.1, bt338.2))) else (none)) else (none)) else (none)) else (none)) else (none)) = some (r1, r2) := H
 have A3 := Aside0.mk A30
 clear A30
 by_cases c4 : 0 ≤ a1
 ·rw [if_pos c4] at H
  have c4b0 : decide (0 ≤ a1) = true := decide_eq_true c4
  clear c4
  by_cases c5 : a1 < (t331.length : Int)
  ·rw [if_pos c5] at H
   have c5b0 : decide (a1 < (t331.length : Int)) = true := decide_eq_true c5
   clear c5
   by_cases c6 : 1 < ((rd_L1 t331 a1).length : Int)
   ·rw [if_pos c6] at H
    have c6b0 : decide (1 < ((rd_L1 t331 a1).length : Int)) = true := decide_eq_true c6
    have c6b1 : decide (1 < (rd_L1 t331 a1).length) = true := decide_eq_true (by omega)
    clear c6
    by_cases c7 : 2 < ((rd_L1 t331 a1).length : Int)
    ·rw [if_pos c7] at H
     have c7b0 : decide (2 < ((rd_L1 t331 a1).length : Int)) = true := decide_eq_true c7
     have c7b1 : decide (2 < (rd_L1 t331 a1).length) = true := decide_eq_true (by omega)
     clear c7
     by_cases c8 : 0 < ((rd_L1 t331 a1).length : Int)
     ·rw [if_pos c8] at H
      have c8b0 : decide (0 < ((rd_L1 t331 a1).length : Int)) = true := decide_eq_true c8
      have c8b1 : decide (0 < (rd_L1 t331 a1).length) = true := decide_eq_true (by omega)
      clear c8
      replace H := Option.bind_eq_some_iff.mp H
      obtain ⟨⟨t338, t341⟩, A90, H⟩ := H
      replace H : (some (t338, t341)) = some (r1, r2) := H
      have A9 := Aside0.mk A90
      clear A90
      simp only [Option.some.injEq, Prod.mk.injEq] at H
      obtain ⟨rfl, rfl⟩ := H
      go_enter Try.func47, Try.ntmps47
      try go_wp2_with (first | ((with_reducible refine gate_dst (N := 2) rfl ?_); refine box_event ?hg (N := 2) ?hd (cs := #[.int .i64 a0_0, .slice A0_1 l0_1.length c0_1, .slice A0_2 l0_2.length c0_2]) (t := 50) ?hr ?_; (case hd => rfl); (case hg => rfl); (case hr => first | (go_simp; done) | (go_simp; rfl)); intro gb330 hg w10 hbox hb; have n0_ := Aside0.mk (below_step (by repeat (first | (with_reducible first | exact HB.out | apply below_alloc | apply pw_below_drewN | apply below_drew1) | exact HB.out)) hb); have n1_ := Aside0.mk (hbox); have n2_ := Aside0.mk ((by rw [hg]; exact (below_size (by repeat (first | (with_reducible first | exact HB.out | apply below_alloc | apply pw_below_drewN | apply below_drew1) | exact HB.out))) : w.heap.size ≤ gb330)); have n3_ := Aside0.mk ((by rw [hg]; exact (below_size (by repeat (first | (with_reducible first | exact HB.out | apply below_alloc | apply pw_below_drewN | apply below_drew1) | exact HB.out))) : w.heap.size ≤ gb330)); clear HB; have HB := n0_; have BK330 := n1_; have GW330 := n2_; have GE330 := n3_; clear n0_ n1_ n2_ n3_; clear hb hbox hg; have hcz11_0 : w10.cell? ⟨gb330, 0, none⟩ = some (.int .i64 a0_0) := (blk_cell BK330.out 0).trans rfl; have hcz11_1 : w10.cell? ⟨gb330, 1, none⟩ = some (.slice A0_1 l0_1.length c0_1) := (blk_cell BK330.out 1).trans rfl; have hcz11_2 : w10.cell? ⟨gb330, 2, none⟩ = some (.slice A0_2 l0_2.length c0_2) := (blk_cell BK330.out 2).trans rfl; have hfz11_0 := blk_frozen BK330.out 0; have hfz11_1 := blk_frozen BK330.out 1; have hfz11_2 := blk_frozen BK330.out 2) | ((with_reducible refine gate_callee (f := 87) rfl ?_); refine goesL_ (some 9) rfl rfl Try.func87 (by kernel_rfl) rfl #[.int .i64 a0_0] rfl (by (try simp only [List.map_toArray, List.map_cons, List.map_nil]); first | done | rfl | (simp only [List.length_drop, List.length_take]; rfl)) ?_; (with_reducible refine (impl_ends.calls k a0_0 t331 _ A3.out).mono ?_); rintro e w12 ⟨v332, rfl, ho0, hb⟩; refine ⟨_, rfl, ?_⟩; have n0_ := Aside0.mk (Kd.S_lower ho0 (below_size (by repeat (first | (with_reducible first | exact HB.out | apply below_alloc | apply pw_below_drewN | apply below_drew1 | refine below_set ?_ GE330.out) | exact HB.out)))); have n1_ := Aside0.mk (blk_below (g := gb330) (o := .cells #[.int .i64 a0_0, .slice A0_1 l0_1.length c0_1, .slice A0_2 l0_2.length c0_2] 50 (0, 0)) (by (with_reducible repeat (first | refine blk_drewN ?_ _ | refine blk_drew ?_ | refine blk_alloc ?_ _)); exact BK330.out) hb); have n2_ := Aside0.mk (below_step (by repeat (first | (with_reducible first | exact HB.out | apply below_alloc | apply pw_below_drewN | apply below_drew1 | refine below_set ?_ GE330.out) | exact HB.out)) hb); clear BK330; clear HB; have HO333 := n0_; have BK330 := n1_; have HB := n2_; clear n0_ n1_ n2_; (try clear hb); (try clear hb2); (try clear hk); (try clear hi); (try clear ho0); obtain ⟨Ao13, co13, eo13⟩ := Kd.S_slice HO333.out; subst eo13; have p334 : 0 ≤ (a1 : Int) := of_decide_eq_true (by first | (with_reducible assumption) | assumption); have q334 : a1 < (t331.length : Int) := of_decide_eq_true (by first | (with_reducible assumption) | assumption); obtain ⟨ad334, A334_0, c334_0, e334, hx334_0, hl334_0, hi334_0⟩ := at_L1 (Kd.S_reads' HO333.out).2.2 a1 p334 q334; cases e334; obtain ⟨ce334, hce334, hMe334, hcc334⟩ := Kd.S_get HO333.out [] a1 p334 (by first | exact q334 | exact of_decide_eq_true (by first | (with_reducible assumption) | assumption) | (have e_ := (Kd.S_reads' HO333.out).1; omega)); obtain ⟨ve334_0, rfl, ge334_0⟩ := hMe334; have hv334_0 := hcc334 0 _ rfl; rw [Nat.add_zero, show ((Kd.slice 3 (Kd.int .i64))).sz = 1 from rfl, Nat.mul_one] at hv334_0; replace hv334_0 := Option.some.inj (hv334_0.symm.trans hx334_0); rw [hv334_0] at ge334_0; have HL334_0 := Aside0.mk (show Kd.R (Kd.int .i64) 3 _ _ _ _ (rd_L1 t331 a1) from ge334_0); clear hv334_0 ge334_0; clear hcc334 hce334; have HR334_0 := Aside0.mk hi334_0; have HC334_0 := Aside0.mk hl334_0; clear hi334_0 hl334_0; replace p334 := eq_true p334; replace q334 := eq_true q334))
      have n0_ := Aside0.mk (Kd.S_drew HO333.out)
      have n1_ := Aside0.mk (Kd.R_drew HL334_0.out)
      have n2_ := Aside0.mk (blk_drew BK330.out)
      have n3_ := Aside0.mk (Kd.C_drew HR334_0.out)
      have n4_ := Aside0.mk (below_drew1 HB.out)
      clear HO333
      clear HL334_0
      clear BK330
      clear HR334_0
      clear HB
      have HO333 := n0_
      have HL334_0 := n1_
      have BK330 := n2_
      have HR334_0 := n3_
      have HB := n4_
      clear n0_ n1_ n2_ n3_ n4_
      have p335 : 0 ≤ (1 : Int) := (by omega)
      have q335 : 1 < ((rd_L1 t331 a1).length : Int) := of_decide_eq_true (by first | (with_reducible assumption) | assumption)
      obtain ⟨ad335, e335, hx335_0⟩ := Kd.at_int (by repeat (first | (with_reducible exact HR334_0.out) | (with_reducible refine Kd.C_alloc ?_ _) | (with_reducible refine Kd.C_drewN ?_ _) | (with_reducible refine Kd.C_drew ?_) | exact HR334_0.out)) 1 p335 q335
      cases e335
      (try simp only [show (1 : Int).toNat = 1 from rfl, Nat.reduceMul, Nat.reduceEqDiff, Go.Addr.add, ↓reduceIte] at hx335_0)
      have qi335 : (1 < (rd_L1 t331 a1).length) = True := eq_true (by omega)
      (try rw [show ((1 : Int)).toNat = 1 from rfl] at hx335_0)
      replace p335 := eq_true p335
      replace q335 := eq_true q335
      have p336 : 0 ≤ (2 : Int) := (by omega)
      have q336 : 2 < ((rd_L1 t331 a1).length : Int) := of_decide_eq_true (by first | (with_reducible assumption) | assumption)
      obtain ⟨ad336, e336, hx336_0⟩ := Kd.at_int (by repeat (first | (with_reducible exact HR334_0.out) | (with_reducible refine Kd.C_alloc ?_ _) | (with_reducible refine Kd.C_drewN ?_ _) | (with_reducible refine Kd.C_drew ?_) | exact HR334_0.out)) 2 p336 q336
      obtain rfl : ad335 = ad336 := (by injection e336)
      (try simp only [show (2 : Int).toNat = 2 from rfl, Nat.reduceMul, Nat.reduceEqDiff, Go.Addr.add, ↓reduceIte] at hx336_0)
      have qi336 : (2 < (rd_L1 t331 a1).length) = True := eq_true (by omega)
      (try rw [show ((2 : Int)).toNat = 2 from rfl] at hx336_0)
      replace p336 := eq_true p336
      replace q336 := eq_true q336
      have p337 : 0 ≤ (0 : Int) := (by omega)
      have q337 : 0 < ((rd_L1 t331 a1).length : Int) := of_decide_eq_true (by first | (with_reducible assumption) | assumption)
      obtain ⟨ad337, e337, hx337_0⟩ := Kd.at_int (by repeat (first | (with_reducible exact HR334_0.out) | (with_reducible refine Kd.C_alloc ?_ _) | (with_reducible refine Kd.C_drewN ?_ _) | (with_reducible refine Kd.C_drew ?_) | exact HR334_0.out)) 0 p337 q337
      obtain rfl : ad335 = ad337 := (by injection e337)
      have qi337 : (0 < (rd_L1 t331 a1).length) = True := eq_true (by omega)
      (try rw [show ((0 : Int)).toNat = 0 from rfl] at hx337_0)
      (try rw [Addr.add_zero'] at hx337_0)
      replace p337 := eq_true p337
      replace q337 := eq_true q337
      refine start_ (n := 15) (S := fun w' => w'.cell? ⟨gb330, 0, none⟩ = some (.int .i64 a0_0) ∧ w'.cell? ⟨gb330, 1, none⟩ = some (.slice A0_1 l0_1.length c0_1) ∧ w'.cell? ⟨gb330, 2, none⟩ = some (.slice A0_2 l0_2.length c0_2) ∧ w'.cell? ⟨ad335.block, ad335.off + 1, none⟩ = some (.int .i64 (rd (rd_L1 t331 a1) 1)) ∧ w'.cell? ⟨ad335.block, ad335.off + 2, none⟩ = some (.int .i64 (rd (rd_L1 t331 a1) 2)) ∧ w'.cell? ad335 = some (.int .i64 (rd (rd_L1 t331 a1) 0))) (ds := []) #[false, false, false, false, false, false, false, false, false, false, false, false, false, false, false] (by kernel_rfl) rfl rfl ⟨(blk_cell BK330.out 0).trans rfl, (blk_cell BK330.out 1).trans rfl, (blk_cell BK330.out 2).trans rfl, hx335_0, hx336_0, hx337_0⟩ (fun hHeld => ?_); refine with_tabW impl_Loops_fromEnd.tab2 impl_Loops_fromEnd.bits2 (fun HT_ HW_ => ?_)
      generalize w12.drew = w14 at HO333 HL334_0 BK330 HR334_0 HB hx335_0 hx336_0 hx337_0 hHeld ⊢
      refine pure_ (i := 1) (N := some 14) (v := ?_) (a' := ?_) #[false, true, false, false, false, false, false, false, false, false, false, false, false, false, false] rfl rfl (any_of HT_.out (by kernel_rfl)) (fun _ _ _ h => h) (Or.inl ⟨by rfl, ?_⟩) ?_ ?_
      rotate_left
      ·intro w'
       go_simp
       with_reducible rfl
      rotate_left
      ·simp only [Act.put, List.setIfInBounds_toArray, List.set_cons_zero, List.set_cons_succ, i64_w, i32_w]
       rfl
      refine pure_ (i := 2) (N := some 15) (v := ?_) (a' := ?_) #[false, true, true, false, false, false, false, false, false, false, false, false, false, false, false] rfl rfl (any_of HT_.out (by kernel_rfl)) (fun _ _ _ h => h) (Or.inl ⟨by rfl, ?_⟩) ?_ ?_
      rotate_left
      ·intro w'
       go_simp
       with_reducible rfl
      rotate_left
      ·simp only [Act.put, List.setIfInBounds_toArray, List.set_cons_zero, List.set_cons_succ, i64_w, i32_w]
       rfl
      refine pure_ (i := 4) (N := some 17) (v := ?_) (a' := ?_) #[false, true, true, false, true, false, false, false, false, false, false, false, false, false, false] rfl rfl (any_of HT_.out (by kernel_rfl)) (fun _ _ _ h => h) (Or.inl ⟨by rfl, ?_⟩) ?_ ?_
      rotate_left
      ·intro w'
       go_simp
       with_reducible rfl
      rotate_left
      ·simp only [Act.put, List.setIfInBounds_toArray, List.set_cons_zero, List.set_cons_succ, i64_w, i32_w]
       rfl
      refine pure_ (i := 5) (N := some 18) (v := ?_) (a' := ?_) #[false, true, true, false, true, true, false, false, false, false, false, false, false, false, false] rfl rfl (any_of HT_.out (by kernel_rfl)) (fun _ _ _ h => h) (Or.inl ⟨by rfl, ?_⟩) ?_ ?_
      rotate_left
      ·intro w'
       go_simp
       with_reducible rfl
      rotate_left
      ·simp only [Act.put, List.setIfInBounds_toArray, List.set_cons_zero, List.set_cons_succ, i64_w, i32_w]
       rfl
      refine pure_ (i := 7) (N := some 20) (v := ?_) (a' := ?_) #[false, true, true, false, true, true, false, true, false, false, false, false, false, false, false] rfl rfl (any_of HT_.out (by kernel_rfl)) (fun _ _ _ h => h) (Or.inl ⟨by rfl, ?_⟩) ?_ ?_
      rotate_left
      ·intro w'
       go_simp
       with_reducible rfl
      rotate_left
      ·simp only [Act.put, List.setIfInBounds_toArray, List.set_cons_zero, List.set_cons_succ, i64_w, i32_w]
       rfl
      refine pure_ (i := 8) (N := some 21) (v := ?_) (a' := ?_) #[false, true, true, false, true, true, false, true, true, false, false, false, false, false, false] rfl rfl (any_of HT_.out (by kernel_rfl)) (fun _ _ _ h => h) (Or.inl ⟨by rfl, ?_⟩) ?_ ?_
      rotate_left
      ·intro w'
       go_simp
       with_reducible rfl
      rotate_left
      ·simp only [Act.put, List.setIfInBounds_toArray, List.set_cons_zero, List.set_cons_succ, i64_w, i32_w]
       rfl
      refine take_ (i := 0) (N := some 13) (v := ?_) (a' := ?_) #[true, true, true, false, true, true, false, true, true, false, false, false, false, false, false] rfl rfl (take_ofW HT_.out HW_.out (by kernel_rfl)) (fun _ _ _ h => h) (Or.inl ⟨by rfl, ?_⟩) hHeld ?_ ?_
      rotate_left
      ·rintro w' ⟨s0, s1, s2, s3, s4, s5⟩
       go_simp
       with_reducible rfl
      rotate_left
      ·simp only [Act.put, List.setIfInBounds_toArray, List.set_cons_zero, List.set_cons_succ, i64_w, i32_w]
       rfl
      refine take_ (i := 3) (N := some 16) (v := ?_) (a' := ?_) #[true, true, true, true, true, true, false, true, true, false, false, false, false, false, false] rfl rfl (take_ofW HT_.out HW_.out (by kernel_rfl)) (fun _ _ _ h => h) (Or.inl ⟨by rfl, ?_⟩) hHeld ?_ ?_
      rotate_left
      ·rintro w' ⟨s0, s1, s2, s3, s4, s5⟩
       go_simp
       with_reducible rfl
      rotate_left
      ·simp only [Act.put, List.setIfInBounds_toArray, List.set_cons_zero, List.set_cons_succ, i64_w, i32_w]
       rfl
      refine take_ (i := 6) (N := some 19) (v := ?_) (a' := ?_) #[true, true, true, true, true, true, true, true, true, false, false, false, false, false, false] rfl rfl (take_ofW HT_.out HW_.out (by kernel_rfl)) (fun _ _ _ h => h) (Or.inl ⟨by rfl, ?_⟩) hHeld ?_ ?_
      rotate_left
      ·rintro w' ⟨s0, s1, s2, s3, s4, s5⟩
       go_simp
       with_reducible rfl
      rotate_left
      ·simp only [Act.put, List.setIfInBounds_toArray, List.set_cons_zero, List.set_cons_succ, i64_w, i32_w]
       rfl
      refine take_ (i := 9) (N := some 22) (v := ?_) (a' := ?_) #[true, true, true, true, true, true, true, true, true, true, false, false, false, false, false] rfl rfl (take_ofW HT_.out HW_.out (by kernel_rfl)) (fun _ _ _ h => h) (Or.inl ⟨by rfl, ?_⟩) hHeld ?_ ?_
      rotate_left
      ·rintro w' ⟨s0, s1, s2, s3, s4, s5⟩
       go_simp
       with_reducible rfl
      rotate_left
      ·simp only [Act.put, List.setIfInBounds_toArray, List.set_cons_zero, List.set_cons_succ, i64_w, i32_w]
       rfl
      refine one_ (i := 10) (N := some 23) #[true, true, true, true, true, true, true, true, true, true, true, false, false, false, false] rfl rfl (one_of HT_.out (by kernel_rfl)) (by decide) (fun K hK => ?_)
      refine goes_ Try.func58 (by kernel_rfl) rfl #[.agg #[.int .i64 a0_0, .slice A0_1 l0_1.length c0_1, .slice A0_2 l0_2.length c0_2], .int .i64 (rd (rd_L1 t331 a1) 1), .int .i64 (rd (rd_L1 t331 a1) 2), .int .i64 (rd (rd_L1 t331 a1) 0)] (by rfl) rfl rfl (by (try simp only [List.map_toArray, List.map_cons, List.map_nil]); first | done | rfl | (simp only [List.length_drop, List.length_take]; rfl)) ?_
      with_reducible refine (impl_Loops_follow.calls a0_0 _ _ l0_1 _ _ l0_2 (rd (rd_L1 t331 a1) 1) (rd (rd_L1 t331 a1) 2) (rd (rd_L1 t331 a1) 0) t338 t341 _ ?side1 ?side2 ?side3 ?side4 A9.out).mono ?_
      (case side1 => repeat (first | exact (Kd.C_below HR0_1.out HB.out) | (with_reducible refine Kd.C_alloc ?_ _) | (with_reducible refine Kd.C_drewN ?_ _) | (with_reducible refine Kd.C_drew ?_)))
      (case side2 => exact HC0_1.out)
      (case side3 => repeat (first | exact (Kd.C_below HR0_2.out HB.out) | (with_reducible refine Kd.C_alloc ?_ _) | (with_reducible refine Kd.C_drewN ?_ _) | (with_reducible refine Kd.C_drew ?_)))
      (case side4 => exact HC0_2.out)
      rintro e w15 ⟨v339, rfl, ho0, hb⟩
      have HS3_ := (hb.cell (World.block_lt_of_cell? _ _ (hHeld.2.2.2.1))).trans (hHeld.2.2.2.1)
      have HS4_ := (hb.cell (World.block_lt_of_cell? _ _ (hHeld.2.2.2.2.1))).trans (hHeld.2.2.2.2.1)
      have HS5_ := (hb.cell (World.block_lt_of_cell? _ _ (hHeld.2.2.2.2.2))).trans (hHeld.2.2.2.2.2)
      refine ⟨_, rfl, ?_⟩
      have n0_ := Aside0.mk (Kd.S_elder' (by (with_reducible repeat (first | apply Kd.S_alloc | apply Kd.S_drewN | apply Kd.S_drew)); exact HO333.out) (Kd.S_base ho0) hb)
      have n1_ := Aside0.mk (Kd.R_below (by (with_reducible repeat (first | apply Kd.R_alloc | apply Kd.R_drewN | apply Kd.R_drew)); exact HL334_0.out) hb)
      have n2_ := Aside0.mk (Kd.S_lower (Kd.S_new' (Kd.S_new' ho0 (Kd.S_lt (by (with_reducible repeat (first | apply Kd.S_alloc | apply Kd.S_drewN | apply Kd.S_drew)); exact HO333.out))) (Kd.R_lt (by (with_reducible repeat (first | apply Kd.R_alloc | apply Kd.R_drewN | apply Kd.R_drew)); exact HL334_0.out))) (below_size (by repeat (first | (with_reducible first | exact HB.out | apply below_alloc | apply pw_below_drewN | apply below_drew1 | refine below_set ?_ GE330.out) | exact HB.out))))
      have n3_ := Aside0.mk (blk_below (g := gb330) (o := .cells #[.int .i64 a0_0, .slice A0_1 l0_1.length c0_1, .slice A0_2 l0_2.length c0_2] 50 (0, 0)) (by (with_reducible repeat (first | refine blk_drewN ?_ _ | refine blk_drew ?_ | refine blk_alloc ?_ _)); exact BK330.out) hb)
      have n4_ := Aside0.mk (Kd.C_below (by repeat (first | (with_reducible exact HR334_0.out) | (with_reducible refine Kd.C_alloc ?_ _) | (with_reducible refine Kd.C_drewN ?_ _) | (with_reducible refine Kd.C_drew ?_) | exact HR334_0.out)) hb)
      have n5_ := Aside0.mk (below_step (by repeat (first | (with_reducible first | exact HB.out | apply below_alloc | apply pw_below_drewN | apply below_drew1 | refine below_set ?_ GE330.out) | exact HB.out)) hb)
      clear HO333
      clear HL334_0
      clear BK330
      clear HR334_0
      clear HB
      have HO333 := n0_
      have HL334_0 := n1_
      have HO340 := n2_
      have BK330 := n3_
      have HR334_0 := n4_
      have HB := n5_
      clear n0_ n1_ n2_ n3_ n4_ n5_
      (try clear hb)
      (try clear hb2)
      (try clear hk)
      (try clear hi)
      (try clear ho0)
      refine hK.out _ _ ⟨(blk_cell BK330.out 0).trans rfl, (blk_cell BK330.out 1).trans rfl, (blk_cell BK330.out 2).trans rfl, HS3_, HS4_, HS5_⟩ (fun hHeld => ?_)
      clear hK K
      refine norm_ (a' := ?_) ?_ ?_
      rotate_left
      ·show Act.put _ (some 23) _ = _
       simp only [Act.put, List.setIfInBounds_toArray, List.set_cons_zero, List.set_cons_succ, i64_w, i32_w]
       rfl
      refine pure_ (i := 11) (N := some 24) (v := ?_) (a' := ?_) #[true, true, true, true, true, true, true, true, true, true, true, true, false, false, false] rfl rfl (any_of HT_.out (by kernel_rfl)) (fun _ _ _ h => h) (Or.inl ⟨by rfl, ?_⟩) ?_ ?_
      rotate_left
      ·intro w'
       go_simp
       with_reducible rfl
      rotate_left
      ·simp only [Act.put, List.setIfInBounds_toArray, List.set_cons_zero, List.set_cons_succ, i64_w, i32_w]
       rfl
      refine pure_ (i := 12) (N := some 25) (v := ?_) (a' := ?_) #[true, true, true, true, true, true, true, true, true, true, true, true, true, false, false] rfl rfl (any_of HT_.out (by kernel_rfl)) (fun _ _ _ h => h) (Or.inl ⟨by rfl, ?_⟩) ?_ ?_
      rotate_left
      ·intro w'
       go_simp
       with_reducible rfl
      rotate_left
      ·simp only [Act.put, List.setIfInBounds_toArray, List.set_cons_zero, List.set_cons_succ, i64_w, i32_w]
       rfl
      refine pure_ (i := 13) (N := some 4) (v := ?_) (a' := ?_) #[true, true, true, true, true, true, true, true, true, true, true, true, true, true, false] rfl rfl (any_of HT_.out (by kernel_rfl)) (fun _ _ _ h => h) (Or.inl ⟨by rfl, ?_⟩) ?_ ?_
      rotate_left
      ·intro w'
       go_simp
       with_reducible rfl
      rotate_left
      ·simp only [Act.put, List.setIfInBounds_toArray, List.set_cons_zero, List.set_cons_succ, i64_w, i32_w]
       rfl
      refine pure_ (i := 14) (N := some 5) (v := ?_) (a' := ?_) #[true, true, true, true, true, true, true, true, true, true, true, true, true, true, true] rfl rfl (any_of HT_.out (by kernel_rfl)) (fun _ _ _ h => h) (Or.inl ⟨by rfl, ?_⟩) ?_ ?_
      rotate_left
      ·intro w'
       go_simp
       with_reducible rfl
      rotate_left
      ·simp only [Act.put, List.setIfInBounds_toArray, List.set_cons_zero, List.set_cons_succ, i64_w, i32_w]
       rfl
      refine done_ (done_of HT_.out (by kernel_rfl)) ?_
      try go_wp2
      go_ret2
      exact ⟨_, by first | rfl | (simp [errW_none, errW_some] <;> rfl) | (simp [*, errW_none, errW_some] <;> rfl), by (with_reducible repeat (first | apply Kd.S_alloc | apply Kd.S_drewN | apply Kd.S_drew)); exact Kd.S_mono HO340.out (fun _ hk => trivial), by repeat (first | (with_reducible first | exact HB.out | apply below_alloc | apply pw_below_drewN | apply below_drew1 | refine below_set ?_ GE330.out) | exact HB.out)⟩
     ·rw [if_neg c8] at H
      exact absurd H (by simp)
    ·rw [if_neg c7] at H
     exact absurd H (by simp)
   ·rw [if_neg c6] at H
    exact absurd H (by simp)
  ·rw [if_neg c5] at H
   exact absurd H (by simp)
 ·rw [if_neg c4] at H
  exact absurd H (by simp)

end Go.Proofs.Ythbkjaieenochaa.P

namespace Go.Proofs.Ythbkjaieenochaa.L
set_option linter.unusedVariables false
open Go.RowKit Go.Proofs.Ythbkjaieenochaa Go.Proofs.Ythbkjaieenochaa.P Go.Proofs.Ythbkjaieenochaa.LN Go.Proofs.YthbkjaieenochaaW.PrintWords Go.Proofs.YthbkjaieenochaaW.PrintLast Go.Proofs.YthbkjaieenochaaW.PrintMore
set_option maxRecDepth 100000

/-- An end: its side, and its point at the border. -/
def endsP (n : Nat) (e : List Int) : Bool :=
 match e with
 | [s, i, j] => ing n i j && ((s == 0 && (i == 0 && j % 2 == 1)) || ((s == 1 && (j == (n : Int) - 1 && ((n : Int) + i) % 2 == 1)) || ((s == 2 && (i == (n : Int) - 1 && ((n : Int) + j) % 2 == 0)) || (s == 3 && (j == 0 && i % 2 == 0)))))
 | _ => false
structure EndsAll (n : Nat) : Prop where
 im : impl_ends.f 100 (n : Int) = some (endsL n)
 sp : spec_loEnds.f 100 (n : Int) = some (endsL n)
 len : (endsL n).length = 2 * n
 all : (endsL n).all (endsP n) = true
theorem ends_all {n : Nat} (h0 : 1 ≤ n) (h1 : n ≤ 6) : EndsAll n := by
 have e : n = 1 ∨ n = 2 ∨ n = 3 ∨ n = 4 ∨ n = 5 ∨ n = 6 := by omega
 rcases e with rfl | rfl | rfl | rfl | rfl | rfl <;> exact ⟨by decide +kernel, by decide +kernel, by decide +kernel, by decide +kernel⟩
theorem ends_ev {n : Nat} (h : EndsAll n) : Ev (fun k => impl_ends.f k (n : Int)) (endsL n) := Ev.of (fun k => impl_ends.mono _ k) h.im
theorem ends_ev2 {n : Nat} (h : EndsAll n) : Ev (fun k => spec_loEnds.f k (n : Int)) (endsL n) := Ev.of (fun k => spec_loEnds.mono _ k) h.sp
theorem ps_all {l : List Int} (h : altB l = true) : ps l l.length = 1 := by
 have := (alt_from l h l.length (Nat.le_refl _)).1
 rw [List.drop_length, altFrom] at this
 exact beq_iff_eq.1 this
theorem ends_at {n : Nat} (h : EndsAll n) (i : Nat) (hi : i < (endsL n).length) : endsP n ((endsL n).getD i []) = true := by
 rw [List.getD_eq_getElem?_getD, List.getElem?_eq_getElem hi]
 exact List.all_eq_true.1 h.all _ (List.getElem_mem hi)
/-- A line that begins at an end begins at an edge that is drawn. -/
theorem end_ok {m : List (List Int)} (hs : isSign m = true) {e : List Int} (he : endsP m.length e = true) : e.length = 3 ∧ okS (r2 (acM m)) (r2 (dnM m)) m.length (rd e 1, rd e 2, rd e 0) := by
 obtain ⟨h1, h2, h3, h4⟩ := isSign_facts hs
 unfold endsP at he
 split at he
 case h_2 => cases he
 rename_i s i j
 refine ⟨rfl, ?_⟩
 show okS _ _ _ (i, j, s)
 rw [Bool.and_eq_true] at he
 obtain ⟨hi, he⟩ := he
 obtain ⟨g1, g2, g3, g4⟩ := ing_iff.1 hi
 obtain ⟨i, rfl⟩ := Int.eq_ofNat_of_zero_le g1
 obtain ⟨j, rfl⟩ := Int.eq_ofNat_of_zero_le g3
 have hin : i < m.length := by omega
 have hjn : j < m.length := by omega
 simp only [Bool.or_eq_true, Bool.and_eq_true, beq_iff_eq] at he
 rcases he with ⟨rfl, hb, hc⟩ | ⟨rfl, hb, hc⟩ | ⟨rfl, hb, hc⟩ | ⟨rfl, hb, hc⟩
 ·refine ⟨hi, (by decide : (0 : Int) ≤ 0), (by decide : (0 : Int) ≤ 3), ?_⟩
  obtain rfl : i = 0 := by omega
  show drw _ _ ((0 : Nat) : Int) (j : Int) 0 = true
  rw [drw_0 m hin hjn, beq_iff_eq]
  simp only [ps]; omega
 ·refine ⟨hi, (by decide : (0 : Int) ≤ 1), (by decide : (1 : Int) ≤ 3), ?_⟩
  show drw _ _ (i : Int) (j : Int) 1 = true
  rw [drw_1 m hin hjn, beq_iff_eq]
  have hj1 : j + 1 = m.length := by omega
  have := ps_all (h4 i hin).1
  rw [h3 i hin] at this
  rw [hj1, this]; omega
 ·refine ⟨hi, (by decide : (0 : Int) ≤ 2), (by decide : (2 : Int) ≤ 3), ?_⟩
  show drw _ _ (i : Int) (j : Int) 2 = true
  rw [drw_2 m hin hjn, beq_iff_eq]
  have hi1 : i + 1 = m.length := by omega
  have := ps_all (h4 j hjn).2
  rw [colL_length] at this
  rw [hi1, this]; omega
 ·refine ⟨hi, (by decide : (0 : Int) ≤ 3), (by decide : (3 : Int) ≤ 3), ?_⟩
  obtain rfl : j = 0 := by omega
  show drw _ _ (i : Int) ((0 : Nat) : Int) 3 = true
  rw [drw_3 m hin hjn, beq_iff_eq]
  simp only [ps]; omega
/-- The line from an end. -/
def lineOf (m : List (List Int)) (e : List Int) : List (List Int) × Int × Bool := (wy (r2 (acM m)) (r2 (dnM m)) m.length (rd e 1, rd e 2, rd e 0) 144 (rd e 1, rd e 2, rd e 0)).getD ([], 0, false)
theorem lineOf_ok {m : List (List Int)} (hs : isSign m = true) {e : List Int} (he : endsP m.length e = true) : wy (r2 (acM m)) (r2 (dnM m)) m.length (rd e 1, rd e 2, rd e 0) 144 (rd e 1, rd e 2, rd e 0) = some (lineOf m e) := by
 obtain ⟨r, hr⟩ := wy_some (isSign_facts hs).2.1 (lp_of hs).good _ (end_ok hs he).2
 unfold lineOf
 rw [hr]; rfl
theorem follow_f {m : List (List Int)} (hs : isSign m = true) {e : List Int} (he : endsP m.length e = true) : impl_Loops_follow.f m.length (acM m) (dnM m) (rd e 1) (rd e 2) (rd e 0) = some (foV m.length (lineOf m e)) := by
 unfold impl_Loops_follow.f
 rw [Int.toNat_natCast, lpB_of (isSign_facts hs).1 (lp_of hs), okB_iff.2 (end_ok hs he).2, lineOf_ok hs he]
 simp
theorem loops_f {m : List (List Int)} (hs : isSign m = true) : impl_loops.f m = some ((m.length : Int), acM m, dnM m) := by unfold impl_loops.f; rw [if_pos hs]
theorem fromEnd_ev {m : List (List Int)} (hs : isSign m = true) (i : Nat) (hi : i < 2 * m.length) : Ev (fun k => impl_Loops_fromEnd.f k m.length (acM m) (dnM m) i) (foV m.length (lineOf m ((endsL m.length).getD i []))) := by
 obtain ⟨h1, h2, _, _⟩ := isSign_facts hs
 have hE := ends_all h1 h2
 have hl : i < (endsL m.length).length := by rw [hE.len]; exact hi
 have he := ends_at hE i hl
 have h3 := (end_ok hs he).1
 unfold impl_Loops_fromEnd.f
 refine Ev.bind (ends_ev hE) (Ev.ite_pos (by omega) (Ev.ite_pos (by omega) ?_))
 rw [rd1_get]
 refine Ev.ite_pos (by omega) (Ev.ite_pos (by omega) (Ev.ite_pos (by omega) ?_))
 exact Ev.some_bind (follow_f hs he) (Ev.now _)
end Go.Proofs.Ythbkjaieenochaa.L
