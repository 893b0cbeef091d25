/- Texts of one chain, in build order. -/
import Derived.Test.YtdcdkckpmkfjdaaYInversionTable3
import Derived.Test.YtdcdkckpmkfjdaaWMore
namespace Go.Proofs.Ytdcdkckpmkfjdaa.P
open Go.RowKit Go.Proofs.YtdcdkckpmkfjdaaW.PrintWords Go.Proofs.YtdcdkckpmkfjdaaW.PrintLast Go.Proofs.YtdcdkckpmkfjdaaW.PrintMore
attribute [local go_sem] max2_int min2_int max_two min_two max_three min_three max_four min_four   -- for this text's walks alone
set_option linter.unusedVariables false
set_option linter.unusedSimpArgs false

mutual
def spec_weRows.l0 : Nat → List Int → List Int → Int → List (List Int) → Int → Option ((List (List Int)))
 | 0, _, _, _, _, _ => none
 | k + 1, x0, x1, x2, x7, x8 => if x8 ≤ 1 then ((spec_l1In.f (wrap64 (x2 + x8)) 0 1).bind fun t113 => (if t113 = true then (if 0 ≤ (x1.length : Int) then (if (x1.length : Int) < (x0.length : Int) then ((spec_l1In.f (wrap64 ((rd x0 (x1.length : Int)) + x8)) 0 1).bind fun t115 => (spec_weRows.j1 k x0 x1 x2 x7 x8 t115)) else (none)) else (none)) else (spec_weRows.j1 k x0 x1 x2 x7 x8 false))) else (some x7)
def spec_weRows.j1 : Nat → List Int → List Int → Int → List (List Int) → Int → Bool → Option ((List (List Int)))
 | 0, _, _, _, _, _, _ => none
 | k + 1, x0, x1, x2, x7, x8, x35 => if x35 = true then ((spec_l1Own.f x1).bind fun t116 => (if t116.length < 17592186044416 then ((spec_weRows.f k x0 (t116 ++ [x8]) (wrap64 (x2 + x8))).bind fun t122 => (if x7.length + t122.length < 5864062014805 then (spec_weRows.l0 k x0 x1 x2 (x7 ++ t122) (wrap64 (x8 + 1))) else (none))) else (none))) else (spec_weRows.l0 k x0 x1 x2 x7 (wrap64 (x8 + 1)))
def spec_weRows.f : Nat → List Int → List Int → Int → Option ((List (List Int)))
 | 0, _, _, _ => none
 | k + 1, l0, l1, a2 => if (l1.length : Int) = (l0.length : Int) then (if a2 = 1 then (some (([l1] : List (List Int)))) else (some ([] : List (List Int)))) else (spec_weRows.l0 k l0 l1 a2 ([] : List (List Int)) (-1))
end
theorem spec_weRows.mono_l : ∀ k, (∀ y0 y1 y2, LeO (spec_weRows.f k y0 y1 y2) (spec_weRows.f (k + 1) y0 y1 y2)) ∧ (∀ y0 y1 y2 y3 y4, LeO (spec_weRows.l0 k y0 y1 y2 y3 y4) (spec_weRows.l0 (k + 1) y0 y1 y2 y3 y4)) ∧ (∀ y0 y1 y2 y3 y4 y5, LeO (spec_weRows.j1 k y0 y1 y2 y3 y4 y5) (spec_weRows.j1 (k + 1) y0 y1 y2 y3 y4 y5))
 | 0 => ⟨fun _ _ _ r h => by simp [spec_weRows.f] at h, fun _ _ _ _ _ r h => by simp [spec_weRows.l0] at h, fun _ _ _ _ _ _ r h => by simp [spec_weRows.j1] at h⟩
 | k + 1 => by
  obtain ⟨ih0, ih1, ih2⟩ := spec_weRows.mono_l k
  refine ⟨?_, ?_, ?_⟩
  ·intro y0 y1 y2
   unfold spec_weRows.f
   repeat' first
   | (with_reducible exact ih0 _ _ _)
   | (with_reducible exact ih1 _ _ _ _ _)
   | (with_reducible exact ih2 _ _ _ _ _ _)
   | (with_reducible exact LeO.refl _)
   | (with_reducible exact LeO.none _)
   | (with_reducible refine LeO.ite ?_ ?_)
   | (with_reducible refine LeO.bind ?_ (fun _ => ?_))
   | exact ih0 _ _ _
   | exact ih1 _ _ _ _ _
   | exact ih2 _ _ _ _ _ _
   | exact LeO.none _
   | refine LeO.ite ?_ ?_
   | refine LeO.bind ?_ (fun _ => ?_)
  ·intro y0 y1 y2 y3 y4
   unfold spec_weRows.l0
   repeat' first
   | (with_reducible exact ih0 _ _ _)
   | (with_reducible exact ih1 _ _ _ _ _)
   | (with_reducible exact ih2 _ _ _ _ _ _)
   | (with_reducible exact LeO.refl _)
   | (with_reducible exact LeO.none _)
   | (with_reducible refine LeO.ite ?_ ?_)
   | (with_reducible refine LeO.bind ?_ (fun _ => ?_))
   | exact ih0 _ _ _
   | exact ih1 _ _ _ _ _
   | exact ih2 _ _ _ _ _ _
   | exact LeO.none _
   | refine LeO.ite ?_ ?_
   | refine LeO.bind ?_ (fun _ => ?_)
  ·intro y0 y1 y2 y3 y4 y5
   unfold spec_weRows.j1
   repeat' first
   | (with_reducible exact ih0 _ _ _)
   | (with_reducible exact ih1 _ _ _ _ _)
   | (with_reducible exact ih2 _ _ _ _ _ _)
   | (with_reducible exact LeO.refl _)
   | (with_reducible exact LeO.none _)
   | (with_reducible refine LeO.ite ?_ ?_)
   | (with_reducible refine LeO.bind ?_ (fun _ => ?_))
   | exact ih0 _ _ _
   | exact ih1 _ _ _ _ _
   | exact ih2 _ _ _ _ _ _
   | exact LeO.none _
   | refine LeO.ite ?_ ?_
   | refine LeO.bind ?_ (fun _ => ?_)
theorem spec_weRows.mono : ∀ a0 a1 a2 k, LeO (spec_weRows.f k a0 a1 a2) (spec_weRows.f (k + 1) a0 a1 a2) := by
 intro a0 a1 a2 k
 obtain ⟨ih0, ih1, ih2⟩ := spec_weRows.mono_l k
 exact ih0 a0 a1 a2
set_option maxHeartbeats 8000000 in
set_option maxRecDepth 100000 in
theorem spec_weRows.calls (k : Nat) : ∀ (A0 : Option Addr) (c0 : Nat) (l0 : List Int) (P1_ : Nat → Prop) (A1 : Option Addr) (c1 : Nat) (l1 : List Int) (a2 : Int) (r : List (List Int)) (w : World) (hr0 : Kd.C (Kd.int .i64) w A0 l0.length l0) (hc0 : l0.length ≤ c0) (hs1 : Kd.V (Kd.int .i64) 3 w w.heap.size (fun k_ => P1_ k_) (.slice A1 l1.length c1) l1) (h : spec_weRows.f k l0 l1 a2 = some r),
  Calls Try.prog 142 #[.slice A0 l0.length c0, .slice A1 l1.length c1, .int .i64 a2] w fun e w' => ∃ v0_ : Value, e = .returned (v0_) ∧ Kd.N (Kd.slice 3 (Kd.int .i64)) 22 w' w.heap.size (fun k_ => (P1_ k_ ∨ w.heap.size ≤ k_)) v0_ r ∧ Below w.heap.size w w' := by
 induction k using Nat.strongRecOn with
 | _ k ih =>
 intro A0 c0 l0 P1_ A1 c1 l1 a2 r w hr0 hc0 hs1 h
 cases k with
 | zero => exact absurd h (by simp [spec_weRows.f])
 | succ k =>
 simp only [spec_weRows.f] at h
 have HR0 := Aside0.mk hr0
 have HC0 := Aside0.mk hc0
 clear hr0 hc0
 have HO1 := Aside0.mk (show Kd.V (Kd.int .i64) 3 w w.heap.size (fun k_ => (P1_ k_ ∨ w.heap.size ≤ k_)) (.slice A1 l1.length c1) l1 from Kd.V_mono hs1 (fun k_ hk => .inl hk))
 have HB := Aside0.mk (Below.refl w.heap.size w)
 have H : (if (l1.length : Int) = (l0.length : Int) then (if a2 = 1 then (some (([l1] : List (List Int)))) else (some ([] : List (List Int)))) else (spec_weRows.l0 k l0 l1 a2 ([] : List (List Int)) (-1))) = some r := h
 clear h
 by_cases c4 : (l1.length : Int) = (l0.length : Int)
 ·rw [if_pos c4] at H
  have c4b0 : ((l1.length : Int) == (l0.length : Int)) = true := beq_iff_eq.mpr c4
  have c4b1 : ((l1.length : Int) != (l0.length : Int)) = false := bne_eq_false_iff_eq.mpr c4
  have c4b2 : (l1.length == l0.length) = true := by first | simpa using c4 | (simp at c4 ⊢; omega)
  clear c4
  by_cases c5 : a2 = 1
  ·rw [if_pos c5] at H
   have c5b0 : (a2 == 1) = true := beq_iff_eq.mpr c5
   have c5b1 : (a2 != 1) = false := bne_eq_false_iff_eq.mpr c5
   clear c5
   obtain ⟨y110, hy110⟩ : ∃ y_ : List (List Int), y_ = (([l1] : List (List Int))) := ⟨_, rfl⟩
   replace H : (some y110) = some r := by first | (rw [hy110]; with_reducible exact H) | (have H2_ := (Option.bind_some _ _).symm.trans H; rw [hy110]; with_reducible exact H2_) | (have H2_ := (Option.bind_some _ _).symm.trans H; with_reducible exact H2_) | with_reducible exact H | (rw [hy110]; exact H) | exact H
   have Ny110 := Aside0.mk hy110
   clear hy110
   obtain rfl := Option.some.inj H
   go_enter Try.func142, Try.ntmps142
   go_wp2_with (first | ((with_reducible refine gate_dst (N := 17) rfl ?_); (try (refine gate_guard (by rfl) ?_; dsimp only)); refine Kd.N_lit (Kd.slice 3 (Kd.int .i64)) _ 22 ?hg (N' := 17) ?hd (xs := ([l1] : List (List Int))) (inner := [.slice A1 l1.length c1]) (ok := (fun k_ => (P1_ k_ ∨ w.heap.size ≤ k_))) (okp := (fun k_ => (P1_ k_ ∨ w.heap.size ≤ k_))) ?hr ?hp (fun _ hk => hk) ((show ∀ k_, w.heap.size ≤ k_ → (fun k_ => (P1_ k_ ∨ w.heap.size ≤ k_)) k_ from fun k_ hk => (.inr (Nat.le_trans (below_size (by repeat (first | (with_reducible first | exact HB.out | apply below_alloc | apply pw_below_drewN | apply below_drew1) | exact HB.out))) hk))) _ (Nat.le_refl _)) (Below.refl _ _) (Nat.le_refl _) (by simp) ?_; (case hd => rfl); (case hg => rfl); (case hr => first | (go_simp; done) | (go_simp; rfl)); (case hp => exact (Reps.one (show Kd.FK (Kd.slice 3 (Kd.int .i64)) _ _ l1 [.slice A1 l1.length c1] from (Kd.FK_slice_mk (Kd.V_reads' (Kd.V_mono (ok' := (fun k_ => (P1_ k_ ∨ w.heap.size ≤ k_))) (HO1.out) (fun k_ hk => hk))).2.1 (Kd.V_F (Kd.V_mono (ok' := (fun k_ => (P1_ k_ ∨ w.heap.size ≤ k_))) (HO1.out) (fun k_ hk => hk))))) (Reps.none _ _))); intro v111 w6 ho7 hb hg_ hnew_; clear hg_ hnew_; (first | rw [← Ny110.out] at ho7 | (simp only [Int.reduceToNat] at ho7; rw [← Ny110.out] at ho7)); have n0_ := Aside0.mk (Kd.V_elder' (by (with_reducible repeat (first | apply Kd.V_alloc | apply Kd.V_drewN | apply Kd.V_drew)); exact HO1.out) (Kd.N_base ho7) hb); have n1_ := Aside0.mk (Kd.N_lower ho7 (below_size (by repeat (first | (with_reducible first | exact HB.out | apply below_alloc | apply pw_below_drewN | apply below_drew1) | exact HB.out)))); have n2_ := Aside0.mk (below_step (by repeat (first | (with_reducible first | exact HB.out | apply below_alloc | apply pw_below_drewN | apply below_drew1) | exact HB.out)) hb); clear HO1; clear HB; have HO1 := n0_; have HO112 := n1_; have HB := n2_; clear n0_ n1_ n2_; clear hb ho7))
   go_ret
   exact ⟨_, by first | rfl | (simp [errW_none, errW_some] <;> rfl) | (simp [*, errW_none, errW_some] <;> rfl), by (with_reducible repeat (first | apply Kd.N_alloc | apply Kd.N_drewN | apply Kd.N_drew)); exact HO112.out, by repeat (first | (with_reducible first | exact HB.out | apply below_alloc | apply pw_below_drewN | apply below_drew1) | exact HB.out)⟩
  ·rw [if_neg c5] at H
   have c5b0 : (a2 == 1) = false := beq_eq_false_iff_ne.mpr c5
   have c5b1 : (a2 != 1) = true := bne_iff_ne.mpr c5
   obtain rfl := Option.some.inj H
   go_enter Try.func142, Try.ntmps142
   go_wp2
   go_ret
   exact ⟨_, by first | rfl | (simp [errW_none, errW_some] <;> rfl) | (simp [*, errW_none, errW_some] <;> rfl), by first | exact Kd.S_nil _ _ _ _ _ | exact Kd.N_nil _ _ _ _ _ | exact Kd.V_nil _ _ _ _ _ | exact Kd.Q_nil _ _ _ _ _ | exact Kd.R_nil _ _ _ _ _, by repeat (first | (with_reducible first | exact HB.out | apply below_alloc | apply pw_below_drewN | apply below_drew1) | exact HB.out)⟩
 ·rw [if_neg c4] at H
  have c4b0 : ((l1.length : Int) == (l0.length : Int)) = false := beq_eq_false_iff_ne.mpr c4
  have c4b1 : ((l1.length : Int) != (l0.length : Int)) = true := bne_iff_ne.mpr c4
  have c4b2 : (l1.length == l0.length) = false := by first | simpa using c4 | (simp at c4 ⊢; omega)
  have H' := Aside0.mk H
  clear H
  go_enter Try.func142, Try.ntmps142
  go_wp2
  go_loopg [7, 8] k (fun kq v7 v8 w' => ∃ (x7_1 : List (List Int)) (x8_1 : Int), v8 = .int .i64 x8_1 ∧ Aside0 (spec_weRows.l0 kq l0 l1 a2 x7_1 x8_1 = some r) ∧ Aside0 (kq ≤ k) ∧ Aside0 (Kd.V (Kd.int .i64) 3 w' w.heap.size (fun k_ => (P1_ k_ ∨ w.heap.size ≤ k_) ∧ some k_ ≠ (v7 : Value).ownBlock) (.slice A1 l1.length c1) l1) ∧ Aside0 (Kd.N (Kd.slice 3 (Kd.int .i64)) 22 w' w.heap.size (fun k_ => (P1_ k_ ∨ w.heap.size ≤ k_)) v7 x7_1) ∧ Aside0 (Below w.heap.size w w'))
  case atStart => exact ⟨(([] : List (List Int))), ((-1)), (by first | rfl | (simp; done) | (simp [*]; done)), H', ⟨Nat.le_refl _⟩, ⟨by (with_reducible repeat (first | apply Kd.V_alloc | apply Kd.V_drewN | apply Kd.V_drew)); exact Kd.V_mono HO1.out (fun _ hk => ⟨hk, (by simp [Value.ownBlock])⟩)⟩, ⟨by first | exact Kd.S_nil _ _ _ _ _ | exact Kd.N_nil _ _ _ _ _ | exact Kd.V_nil _ _ _ _ _ | exact Kd.Q_nil _ _ _ _ _ | exact Kd.R_nil _ _ _ _ _⟩, ⟨by repeat (first | (with_reducible first | exact HB.out | apply below_alloc | apply pw_below_drewN | apply below_drew1) | exact HB.out)⟩⟩
  case round =>
   clear H'
   try clear c1
   try clear p2
   try clear c4
   try clear c4b0
   try clear c4b1
   try clear c4b2
   try clear c5
   try clear c5b0
   try clear c5b1
   obtain ⟨x7_1, x8_1, rfl, HA, HK1, HO_1, HO_7, HB⟩ := hrel
   cases gk with
   | zero => exact absurd HA.out (by simp [spec_weRows.l0])
   | succ k1 =>
    have H := HA.out
    clear HA
    simp only [spec_weRows.l0] at H
    by_cases c8 : x8_1 ≤ 1
    ·rw [if_pos c8] at H
     have c8b0 : decide (x8_1 ≤ 1) = true := decide_eq_true c8
     clear c8
     have HC9 := Aside0.mk H
     clear H
     go_upto_region 9 with (fail)
     go_cut [35] (fun v35 wc => ∃ (kq : Nat) (x35_8 : Bool), v35 = .bool x35_8 ∧ Aside0 (spec_weRows.j1 kq l0 l1 a2 x7_1 x8_1 x35_8 = some r) ∧ Aside0 (kq ≤ k1) ∧ Aside0 (Kd.V (Kd.int .i64) 3 wc w.heap.size (fun k_ => (P1_ k_ ∨ w.heap.size ≤ k_) ∧ some k_ ≠ (u7 : Value).ownBlock) (.slice A1 l1.length c1) l1) ∧ Aside0 (Kd.N (Kd.slice 3 (Kd.int .i64)) 22 wc w.heap.size (fun k_ => (P1_ k_ ∨ w.heap.size ≤ k_)) u7 x7_1) ∧ Aside0 (Below w.heap.size w wc))
     case first =>
      have H := HC9.out
      clear HC9
      replace H := Option.bind_eq_some_iff.mp H
      obtain ⟨t113, A100, H⟩ := H
      replace H : (if t113 = true then (if 0 ≤ (l1.length : Int) then (if (l1.length : Int) < (l0.length : Int) then ((spec_l1In.f (wrap64 ((rd l0 (l1.length : Int)) + x8_1)) 0 1).bind fun t115 => (spec_weRows.j1 k1 l0 l1 a2 x7_1 x8_1 t115)) else (none)) else (none)) else (spec_weRows.j1 k1 l0 l1 a2 x7_1 x8_1 false)) = some r := H
      have A10 := Aside0.mk A100
      clear A100
      by_cases c11 : t113 = true
      ·subst c11
       have H1 : (if 0 ≤ (l1.length : Int) then (if (l1.length : Int) < (l0.length : Int) then ((spec_l1In.f (wrap64 ((rd l0 (l1.length : Int)) + x8_1)) 0 1).bind fun t115 => (spec_weRows.j1 k1 l0 l1 a2 x7_1 x8_1 t115)) else (none)) else (none)) = some r := by rw [if_pos rfl] at H; exact H
       clear H
       have H := H1
       clear H1
       by_cases c12 : 0 ≤ (l1.length : Int)
       ·rw [if_pos c12] at H
        have c12b0 : decide (0 ≤ (l1.length : Int)) = true := decide_eq_true c12
        have c12b1 : decide (0 ≤ l1.length) = true := decide_eq_true (by omega)
        clear c12
        (try rw [c12b1])
        (first | rw [c12b0] | (simp only [i64_w, i32_w]; rw [c12b0]) | skip)
        by_cases c13 : (l1.length : Int) < (l0.length : Int)
        ·rw [if_pos c13] at H
         have c13b0 : decide ((l1.length : Int) < (l0.length : Int)) = true := decide_eq_true c13
         have c13b1 : decide (l1.length < l0.length) = true := decide_eq_true (Int.ofNat_lt.mp c13)
         clear c13
         replace H := Option.bind_eq_some_iff.mp H
         obtain ⟨t115, A140, H⟩ := H
         replace H : (spec_weRows.j1 k1 l0 l1 a2 x7_1 x8_1 t115) = some r := H
         have A14 := Aside0.mk A140
         clear A140
         have H' := Aside0.mk H
         clear H
         go_wp2_with (first | ((with_reducible refine gate_callee (f := 99) rfl ?_); refine goesL_ (some 25) rfl rfl Try.func99 (by kernel_rfl) rfl #[.int .i64 (wrap64 (a2 + x8_1)), .int .i64 0, .int .i64 1] rfl (by (try simp only [List.map_toArray, List.map_cons, List.map_nil]); first | done | rfl | (simp only [List.length_drop, List.length_take]; rfl)) ?_; (with_reducible refine (spec_l1In.calls (wrap64 (a2 + x8_1)) 0 1 true _ A10.out).mono ?_); rintro e w' ⟨rfl, ⟨nd, rfl⟩⟩; refine ⟨_, rfl, ?_⟩; have p114 : 0 ≤ ((l1.length : Int) : Int) := of_decide_eq_true (by first | (with_reducible assumption) | assumption); have q114 : (l1.length : Int) < (l0.length : Int) := of_decide_eq_true (by first | (with_reducible assumption) | assumption); obtain ⟨ad114, e114, hx114_0⟩ := Kd.at_int HR0.out (l1.length : Int) p114 q114; cases e114; (try replace hx114_0 := (HB.out.cell (World.block_lt_of_cell? w _ hx114_0)).trans hx114_0); (try simp only [Go.IntWalk.toNatUp] at hx114_0); replace p114 := eq_true p114; replace q114 := eq_true q114) | (go_at_call 99; (with_reducible refine (spec_l1In.calls (wrap64 ((rd l0 (l1.length : Int)) + x8_1)) 0 1 t115 _ A14.out).mono ?_); rintro e w' ⟨rfl, ⟨nd, rfl⟩⟩))
         go_meet
         case rel => exact ⟨_, (t115), (by first | rfl | (simp; done) | (simp [*]; done)), H', ⟨by have := HK1.out; first | omega | exact Nat.le_refl _⟩, ⟨by (with_reducible repeat (first | apply Kd.V_alloc | apply Kd.V_drewN | apply Kd.V_drew)); exact HO_1.out⟩, ⟨by (with_reducible repeat (first | apply Kd.N_alloc | apply Kd.N_drewN | apply Kd.N_drew)); exact HO_7.out⟩, ⟨by repeat (first | (with_reducible first | exact HB.out | apply below_alloc | apply pw_below_drewN | apply below_drew1) | exact HB.out)⟩⟩
        ·rw [if_neg c13] at H
         exact absurd H (by simp)
       ·rw [if_neg c12] at H
        exact absurd H (by simp)
      ·replace c11 := Bool.eq_false_iff.mpr c11
       subst c11
       have H1 : (spec_weRows.j1 k1 l0 l1 a2 x7_1 x8_1 false) = some r := by rw [if_neg (show ¬ (false = true) by decide)] at H; exact H
       clear H
       have H := H1
       clear H1
       have H' := Aside0.mk H
       clear H
       go_wp2_with (first | ((with_reducible refine gate_callee (f := 99) rfl ?_); refine goesL_ (some 25) rfl rfl Try.func99 (by kernel_rfl) rfl #[.int .i64 (wrap64 (a2 + x8_1)), .int .i64 0, .int .i64 1] rfl (by (try simp only [List.map_toArray, List.map_cons, List.map_nil]); first | done | rfl | (simp only [List.length_drop, List.length_take]; rfl)) ?_; (with_reducible refine (spec_l1In.calls (wrap64 (a2 + x8_1)) 0 1 false _ A10.out).mono ?_); rintro e w' ⟨rfl, ⟨nd, rfl⟩⟩; refine ⟨_, rfl, ?_⟩))
       go_meet
       case rel => exact ⟨_, (false), (by first | rfl | (simp; done) | (simp [*]; done)), H', ⟨by have := HK1.out; first | omega | exact Nat.le_refl _⟩, ⟨by (with_reducible repeat (first | apply Kd.V_alloc | apply Kd.V_drewN | apply Kd.V_drew)); exact HO_1.out⟩, ⟨by (with_reducible repeat (first | apply Kd.N_alloc | apply Kd.N_drewN | apply Kd.N_drew)); exact HO_7.out⟩, ⟨by repeat (first | (with_reducible first | exact HB.out | apply below_alloc | apply pw_below_drewN | apply below_drew1) | exact HB.out)⟩⟩
     case rest =>
      clear HC9
      try clear c1
      try clear p1
      try clear q1
      try clear hx1
      try clear p2
      try clear c4
      try clear c4b0
      try clear c4b1
      try clear c4b2
      try clear c5
      try clear c5b0
      try clear c5b1
      try clear p6
      try clear c8
      try clear c8b0
      try clear c9
      try clear c11
      try clear p11
      try clear q11
      try clear hx11
      try clear c12
      try clear c12b0
      try clear c12b1
      try clear c13
      try clear c13b0
      try clear c13b1
      try clear c14
      try clear hx114_0
      try clear p114
      try clear p2
      try clear q114
      obtain ⟨kq, x35_8, rfl, HA, HJ8, HO_1, HO_7, HB⟩ := hcut
      cases kq with
      | zero => exact absurd HA.out (by simp [spec_weRows.j1])
      | succ kj8 =>
       have H := HA.out
       clear HA
       simp only [spec_weRows.j1] at H
       by_cases c15 : x35_8 = true
       ·subst c15
        have H1 : ((spec_l1Own.f l1).bind fun t116 => (if t116.length < 17592186044416 then ((spec_weRows.f kj8 l0 (t116 ++ [x8_1]) (wrap64 (a2 + x8_1))).bind fun t122 => (if x7_1.length + t122.length < 5864062014805 then (spec_weRows.l0 kj8 l0 l1 a2 (x7_1 ++ t122) (wrap64 (x8_1 + 1))) else (none))) else (none))) = some r := by rw [if_pos rfl] at H; exact H
        clear H
        have H := H1
        clear H1
        replace H := Option.bind_eq_some_iff.mp H
        obtain ⟨t116, A160, H⟩ := H
        replace H : (if t116.length < 17592186044416 then ((spec_weRows.f kj8 l0 (t116 ++ [x8_1]) (wrap64 (a2 + x8_1))).bind fun t122 => (if x7_1.length + t122.length < 5864062014805 then (spec_weRows.l0 kj8 l0 l1 a2 (x7_1 ++ t122) (wrap64 (x8_1 + 1))) else (none))) else (none)) = some r := H
        have A16 := Aside0.mk A160
        clear A160
        by_cases c17 : t116.length < 17592186044416
        ·rw [if_pos c17] at H
         have LMc17 := Aside0.mk c17
         clear c17
         obtain ⟨y119, hy119⟩ : ∃ y_ : List Int, y_ = (t116 ++ [x8_1]) := ⟨_, rfl⟩
         replace H : ((spec_weRows.f kj8 l0 y119 (wrap64 (a2 + x8_1))).bind fun t122 => (if x7_1.length + t122.length < 5864062014805 then (spec_weRows.l0 kj8 l0 l1 a2 (x7_1 ++ t122) (wrap64 (x8_1 + 1))) else (none))) = some r := by first | (rw [hy119]; with_reducible exact H) | (have H2_ := (Option.bind_some _ _).symm.trans H; rw [hy119]; with_reducible exact H2_) | (have H2_ := (Option.bind_some _ _).symm.trans H; with_reducible exact H2_) | with_reducible exact H | (rw [hy119]; exact H) | exact H
         have Ny119 := Aside0.mk hy119
         clear hy119
         replace H := Option.bind_eq_some_iff.mp H
         obtain ⟨t122, A180, H⟩ := H
         replace H : (if x7_1.length + t122.length < 5864062014805 then (spec_weRows.l0 kj8 l0 l1 a2 (x7_1 ++ t122) (wrap64 (x8_1 + 1))) else (none)) = some r := H
         have A18 := Aside0.mk A180
         clear A180
         by_cases c19 : x7_1.length + t122.length < 5864062014805
         ·rw [if_pos c19] at H
          have LMc19 := Aside0.mk c19
          clear c19
          obtain ⟨y125, hy125⟩ : ∃ y_ : List (List Int), y_ = (x7_1 ++ t122) := ⟨_, rfl⟩
          replace H : (spec_weRows.l0 kj8 l0 l1 a2 y125 (wrap64 (x8_1 + 1))) = some r := by first | (rw [hy125]; with_reducible exact H) | (have H2_ := (Option.bind_some _ _).symm.trans H; rw [hy125]; with_reducible exact H2_) | (have H2_ := (Option.bind_some _ _).symm.trans H; with_reducible exact H2_) | with_reducible exact H | (rw [hy125]; exact H) | exact H
          have Ny125 := Aside0.mk hy125
          clear hy125
          have H' := Aside0.mk H
          clear H
          go_wp2_with (first | ((with_reducible refine gate_callee (f := 110) rfl ?_); refine goesL_ (some 39) rfl rfl Try.func110 (by kernel_rfl) rfl #[.slice A1 l1.length c1] rfl (by (try simp only [List.map_toArray, List.map_cons, List.map_nil]); first | done | rfl | (simp only [List.length_drop, List.length_take]; rfl)) ?_; (with_reducible refine (spec_l1Own.calls _ _ l1 t116 _ ?side1 ?side2 A16.out).mono ?_); (case side1 => repeat (first | exact (Kd.V_reads' HO_1.out).2.2 | (with_reducible refine Kd.C_alloc ?_ _) | (with_reducible refine Kd.C_drewN ?_ _) | (with_reducible refine Kd.C_drew ?_))); (case side2 => exact (Kd.V_reads' HO_1.out).2.1); rintro e w20 ⟨v117, rfl, ho0, hb⟩; refine ⟨_, rfl, ?_⟩; have n0_ := Aside0.mk (Kd.V_elder' (by (with_reducible repeat (first | apply Kd.V_alloc | apply Kd.V_drewN | apply Kd.V_drew)); exact HO_1.out) (Kd.R_base ho0) hb); have n1_ := Aside0.mk (Kd.N_elder' (by (with_reducible repeat (first | apply Kd.N_alloc | apply Kd.N_drewN | apply Kd.N_drew)); exact HO_7.out) (Kd.R_base ho0) hb); have n2_ := Aside0.mk (Kd.R_lower (Kd.R_newM (M := fun k_ => (w.heap.size ≤ k_)) ho0 (below_size (by repeat (first | (with_reducible first | exact HB.out | apply below_alloc | apply pw_below_drewN | apply below_drew1) | exact HB.out))) (fun k_ h_ => h_)) (below_size (by repeat (first | (with_reducible first | exact HB.out | apply below_alloc | apply pw_below_drewN | apply below_drew1) | exact HB.out)))); have n3_ := Aside0.mk (below_step (by repeat (first | (with_reducible first | exact HB.out | apply below_alloc | apply pw_below_drewN | apply below_drew1) | exact HB.out)) hb); clear HO_1; clear HO_7; clear HB; have HO_1 := n0_; have HO_7 := n1_; have HO118 := n2_; have HB := n3_; clear n0_ n1_ n2_ n3_; (try clear hb); (try clear hb2); (try clear hk); (try clear hi); (try clear ho0)) | ((with_reducible refine gate_builtin (b := .append) (xs := #[.tmp 39, .tmp 41]) rfl ?_); (try (refine gate_guard (by rfl) ?_; dsimp only)); at_builtin; refine Kd.R_append (Kd.int .i64) (w0 := w) w.heap.size rfl (.tmp 39) (.tmp 41) 22 3 (.int .i64 0) 8 rfl Try.underlying22 info3 rfl (by decide) (by omega) v117 t116 x8_1 [.int .i64 x8_1] (fun k_ => (w.heap.size ≤ k_)) (fun _ => False) rfl rfl ?aP (fun _ hk => hk.elim) ?aF ?aO ?aB ?aS ?aL ?_; (case aP => exact rfl); (case aB => exact (by repeat (first | (with_reducible first | exact HB.out | apply below_alloc | apply pw_below_drewN | apply below_drew1) | exact HB.out))); (case aF => exact (fun k_ hk => (Nat.le_trans (below_size (by repeat (first | (with_reducible first | exact HB.out | apply below_alloc | apply pw_below_drewN | apply below_drew1) | exact HB.out))) hk))); (case aO => exact (by (with_reducible repeat (first | apply Kd.R_alloc | apply Kd.R_drewN | apply Kd.R_drew)); exact Kd.R_mono HO118.out (fun _ hk => hk.1))); (case aS => exact (below_size (by repeat (first | (with_reducible first | exact HB.out | apply below_alloc | apply pw_below_drewN | apply below_drew1) | exact HB.out)))); (case aL => have := LMc17.out; omega); intro v120 w21 ho hb hg hat; rw [← Ny119.out] at ho; have n0_ := Aside0.mk (Kd.V_afterv (ok := (fun k_ => (P1_ k_ ∨ w.heap.size ≤ k_) ∧ some k_ ≠ (u7 : Value).ownBlock)) (by (with_reducible repeat (first | apply Kd.V_alloc | apply Kd.V_drewN | apply Kd.V_drew)); exact HO_1.out) hg hat); have n1_ := Aside0.mk (Kd.N_afterv (ok := (fun k_ => (P1_ k_ ∨ w.heap.size ≤ k_))) (by (with_reducible repeat (first | apply Kd.N_alloc | apply Kd.N_drewN | apply Kd.N_drew)); exact HO_7.out) hg hat); have n2_ := Aside0.mk (hb); have n3_ := Aside0.mk (ho); clear HO_1; clear HO_7; clear HB; clear HO118; have HO_1 := n0_; have HO_7 := n1_; have HB := n2_; have HO121 := n3_; clear n0_ n1_ n2_ n3_; clear ho hb hg hat; obtain ⟨Ao22, co22, eo22⟩ := Kd.R_slice HO121.out; subst eo22) | ((with_reducible refine gate_callee (f := 142) rfl ?_); refine goesL_ (some 46) rfl rfl Try.func142 (by kernel_rfl) rfl #[.slice A0 l0.length c0, .slice Ao22 y119.length co22, .int .i64 (wrap64 (a2 + x8_1))] rfl (by (try simp only [List.map_toArray, List.map_cons, List.map_nil]); first | done | rfl | (simp only [List.length_drop, List.length_take]; rfl)) ?_; (with_reducible refine (ih kj8 (by have := HK1.out; have := HJ8.out; omega) _ _ l0 (fun k_ => some k_ = (.slice Ao22 y119.length co22 : Value).ownBlock) _ _ y119 (wrap64 (a2 + x8_1)) t122 _ ?side1 ?side2 ?side3 A18.out).mono ?_); (case side1 => repeat (first | exact (Kd.C_below HR0.out HB.out) | (with_reducible refine Kd.C_alloc ?_ _) | (with_reducible refine Kd.C_drewN ?_ _) | (with_reducible refine Kd.C_drew ?_))); (case side2 => exact HC0.out); (case side3 => exact Kd.R_V (Kd.R_tight rfl (Kd.R_apart' (HO121.out) (Kd.N_typed HO_7.out) (by decide)))); rintro e w23 ⟨v123, rfl, ho0, hb⟩; refine ⟨_, rfl, ?_⟩; have n0_ := Aside0.mk (Kd.V_elder' (by (with_reducible repeat (first | apply Kd.V_alloc | apply Kd.V_drewN | apply Kd.V_drew)); exact HO_1.out) (Kd.N_base ho0) hb); have n1_ := Aside0.mk (Kd.N_elder' (by (with_reducible repeat (first | apply Kd.N_alloc | apply Kd.N_drewN | apply Kd.N_drew)); exact HO_7.out) (Kd.N_base ho0) hb); have n2_ := Aside0.mk (Kd.R_below (by (with_reducible repeat (first | apply Kd.R_alloc | apply Kd.R_drewN | apply Kd.R_drew)); exact HO121.out) hb); have n3_ := Aside0.mk (Kd.N_lower (Kd.N_mono (ok' := fun k_ => (P1_ k_ ∨ w.heap.size ≤ k_) ∧ some k_ ≠ (u7 : Value).ownBlock) ho0 (fun k_ hk_ => ⟨Or.elim hk_ (fun hs_ => (.inr (((Kd.R_apart' (HO121.out) (Kd.N_typed HO_7.out) (by decide)).1 k_ hs_.symm).1))) (fun hn_ => (.inr (Nat.le_trans (below_size (by repeat (first | (with_reducible first | exact HB.out | apply below_alloc | apply pw_below_drewN | apply below_drew1) | exact HB.out))) hn_))), Or.elim hk_ (fun hs_ => ((Kd.R_apart' (HO121.out) (Kd.N_typed HO_7.out) (by decide)).1 k_ hs_.symm).2) (fun hn_ => (Kd.fresh' (Kd.N_lt (by (with_reducible repeat (first | apply Kd.N_alloc | apply Kd.N_drewN | apply Kd.N_drew)); exact HO_7.out)) k_ hn_))⟩)) (below_size (by repeat (first | (with_reducible first | exact HB.out | apply below_alloc | apply pw_below_drewN | apply below_drew1) | exact HB.out)))); have n4_ := Aside0.mk (below_step (by repeat (first | (with_reducible first | exact HB.out | apply below_alloc | apply pw_below_drewN | apply below_drew1) | exact HB.out)) hb); clear HO_1; clear HO_7; clear HO121; clear HB; have HO_1 := n0_; have HO_7 := n1_; have HO121 := n2_; have HO124 := n3_; have HB := n4_; clear n0_ n1_ n2_ n3_ n4_; (try clear hb); (try clear hb2); (try clear hk); (try clear hi); (try clear ho0); obtain ⟨Ao25, co25, eo25⟩ := Kd.N_slice HO124.out; subst eo25) | ((with_reducible refine gate_builtin (b := .append) (xs := #[.tmp 36, .tmp 46]) rfl ?_); (try (refine gate_guard (by rfl) ?_; dsimp only)); at_builtin; refine Kd.N_append_rows (Kd.slice 3 (Kd.int .i64)) (w0 := w) w.heap.size rfl (.tmp 36) (.tmp 46) 36 22 (.slice none 0 0) 24 rfl Try.underlying36 info22 rfl (by decide) (by omega) u7 x7_1 t122 _ _ _ (fun k_ => (P1_ k_ ∨ w.heap.size ≤ k_)) (fun k_ => ((fun k_ => (P1_ k_ ∨ w.heap.size ≤ k_))) k_ ∧ some k_ ≠ (u7 : Value).ownBlock) rfl rfl ?aO ?aR (fun _ hk => hk) ?aF ?aB ?aS ?aL ?_; (case aR => exact (by skip; exact Kd.N_F (Kd.N_mono (ok' := (fun k_ => ((fun k_ => (P1_ k_ ∨ w.heap.size ≤ k_))) k_ ∧ some k_ ≠ (u7 : Value).ownBlock)) (HO124.out) (fun k_ hk => ⟨hk.1, hk.2⟩)))); (case aB => exact (by repeat (first | (with_reducible first | exact HB.out | apply below_alloc | apply pw_below_drewN | apply below_drew1) | exact HB.out))); (case aF => exact (fun k_ hk => (.inr (Nat.le_trans (below_size (by repeat (first | (with_reducible first | exact HB.out | apply below_alloc | apply pw_below_drewN | apply below_drew1) | exact HB.out))) hk)))); (case aO => exact (by (with_reducible repeat (first | apply Kd.N_alloc | apply Kd.N_drewN | apply Kd.N_drew)); exact Kd.N_mono HO_7.out (fun _ hk => hk.1.1))); (case aS => exact (below_size (by repeat (first | (with_reducible first | exact HB.out | apply below_alloc | apply pw_below_drewN | apply below_drew1) | exact HB.out)))); (case aL => have := LMc19.out; omega); intro v126 w24 ho hb hg hat; rw [← Ny125.out] at ho; have n0_ := Aside0.mk (Kd.V_afterv (ok := (fun k_ => (P1_ k_ ∨ w.heap.size ≤ k_) ∧ some k_ ≠ (.slice Ao22 y119.length co22 : Value).ownBlock ∧ some k_ ≠ (.slice Ao25 t122.length co25 : Value).ownBlock)) (by (with_reducible repeat (first | apply Kd.V_alloc | apply Kd.V_drewN | apply Kd.V_drew)); exact Kd.V_mono HO_1.out (fun _ hk => ⟨⟨hk.1.1.1, ⟨hk.1.2, hk.2⟩⟩, hk.1.1.2⟩)) hg hat); have n1_ := Aside0.mk (Kd.R_over' (by (with_reducible repeat (first | apply Kd.R_alloc | apply Kd.R_drewN | apply Kd.R_drew)); exact HO121.out) (Kd.N_typed (by (with_reducible repeat (first | apply Kd.N_alloc | apply Kd.N_drewN | apply Kd.N_drew)); exact HO_7.out)) (by decide) hg); have n2_ := Aside0.mk (Kd.N_afterv (ok := (fun k_ => (P1_ k_ ∨ w.heap.size ≤ k_))) (by (with_reducible repeat (first | apply Kd.N_alloc | apply Kd.N_drewN | apply Kd.N_drew)); exact HO124.out) hg hat); have n3_ := Aside0.mk (hb); have n4_ := Aside0.mk (ho); clear HO_1; clear HO121; clear HO124; clear HB; clear HO_7; have HO_1 := n0_; have HO121 := n1_; have HO124 := n2_; have HB := n3_; have HO127 := n4_; clear n0_ n1_ n2_ n3_ n4_; clear ho hb hg hat))
          go_roundg kj8
          case measure => have := HK1.out; have := HJ8.out; omega
          case rel => exact ⟨(y125), (wrap64 (x8_1 + 1)), (by first | rfl | (simp; done) | (simp [*]; done)), H', ⟨by have := HK1.out; have := HJ8.out; omega⟩, ⟨by (with_reducible repeat (first | apply Kd.V_alloc | apply Kd.V_drewN | apply Kd.V_drew)); exact Kd.V_mono HO_1.out (fun _ hk => ⟨hk.1.1, hk.2⟩)⟩, ⟨by (with_reducible repeat (first | apply Kd.N_alloc | apply Kd.N_drewN | apply Kd.N_drew)); exact HO127.out⟩, ⟨by repeat (first | (with_reducible first | exact HB.out | apply below_alloc | apply pw_below_drewN | apply below_drew1) | exact HB.out)⟩⟩
         ·rw [if_neg c19] at H
          exact absurd H (by simp)
        ·rw [if_neg c17] at H
         exact absurd H (by simp)
       ·replace c15 := Bool.eq_false_iff.mpr c15
        subst c15
        have H1 : (spec_weRows.l0 kj8 l0 l1 a2 x7_1 (wrap64 (x8_1 + 1))) = some r := by rw [if_neg (show ¬ (false = true) by decide)] at H; exact H
        clear H
        have H := H1
        clear H1
        have H' := Aside0.mk H
        clear H
        go_wp2
        go_roundg kj8
        case measure => have := HK1.out; have := HJ8.out; omega
        case rel => exact ⟨(x7_1), (wrap64 (x8_1 + 1)), (by first | rfl | (simp; done) | (simp [*]; done)), H', ⟨by have := HK1.out; have := HJ8.out; omega⟩, ⟨by (with_reducible repeat (first | apply Kd.V_alloc | apply Kd.V_drewN | apply Kd.V_drew)); exact HO_1.out⟩, ⟨by (with_reducible repeat (first | apply Kd.N_alloc | apply Kd.N_drewN | apply Kd.N_drew)); exact HO_7.out⟩, ⟨by repeat (first | (with_reducible first | exact HB.out | apply below_alloc | apply pw_below_drewN | apply below_drew1) | exact HB.out)⟩⟩
    ·rw [if_neg c8] at H
     have c8b0 : decide (x8_1 ≤ 1) = false := decide_eq_false c8
     clear c8
     obtain rfl := Option.some.inj H
     go_wp2
     go_ret
     exact ⟨_, by first | rfl | (simp [errW_none, errW_some] <;> rfl) | (simp [*, errW_none, errW_some] <;> rfl), by (with_reducible repeat (first | apply Kd.N_alloc | apply Kd.N_drewN | apply Kd.N_drew)); exact HO_7.out, by repeat (first | (with_reducible first | exact HB.out | apply below_alloc | apply pw_below_drewN | apply below_drew1) | exact HB.out)⟩

end Go.Proofs.Ytdcdkckpmkfjdaa.P

namespace Go.Proofs.Ytdcdkckpmkfjdaa.L
open Go.RowKit Go.Proofs.Ytdcdkckpmkfjdaa Go.Proofs.Ytdcdkckpmkfjdaa.P Go.Proofs.YtdcdkckpmkfjdaaW.PrintWords Go.Proofs.YtdcdkckpmkfjdaaW.PrintLast Go.Proofs.YtdcdkckpmkfjdaaW.PrintMore
set_option linter.unusedVariables false
set_option linter.unusedSimpArgs false

/-- A row added to the sums of the columns. -/
def addR (s r : List Int) (j : Nat) : List Int := (List.range j).foldl (fun s j => s.set j (wrap64 (rd s j + rd r j))) s
theorem addR_succ (s r : List Int) (j : Nat) : addR s r (j + 1) = (addR s r j).set j (wrap64 (rd (addR s r j) j + rd r j)) := by
  unfold addR
  rw [List.range_succ, List.foldl_append]
  rfl
theorem addR_length (s r : List Int) : ∀ j, (addR s r j).length = s.length
  | 0 => rfl
  | j + 1 => by rw [addR_succ, List.length_set, addR_length s r j]
theorem own_at {g j n c : Nat} (h : some j = (Value.slice (some ⟨g, 0, none⟩) n c).ownBlock) : j = g := by simpa [Value.ownBlock] using h
mutual
def wgL : Nat → List (List Int) → List Int → List (List Int) → Option (List (List (List Int)))
  | 0, _, _, _ => none
  | k + 1, rows, s, L => match L with
    | [] => some []
    | r :: rest => if r.length ≤ s.length then (wgE k (rows ++ [r]) (addR s r r.length)).bind fun a => (wgL k rows s rest).bind fun b => some (a ++ b) else none
def wgE : Nat → List (List Int) → List Int → Option (List (List (List Int)))
  | 0, _, _ => none
  | k + 1, rows, s => if rows.length ≤ 100 ∧ s.length ≤ 100 then (if rows.length = s.length then some (if (s.all fun x => inB x 1 1) = true then [rows] else []) else (spec_weRows.f k s [] 0).bind fun L => if L.length ≤ 1000 then wgL k rows s L else none) else none
end
/-- A list of tables comes back whose blocks are ok or new. -/
def RetNM (w : World) (ok : Nat → Prop) (L : List (List (List Int))) (e : Ending) (w' : World) : Prop := ∃ v : Value, e = .returned v ∧ Kd.N (Kd.slice 22 (Kd.slice 3 (Kd.int .i64))) 36 w' w.heap.size (fun k => ok k ∨ w.heap.size ≤ k) v L ∧ Below w.heap.size w w'
/-- A list of one element, in a block of its own. -/
theorem one_N {α : Type} {d : Kd α} {e e1 : Nat} {W : World} {ok okp : Nat → Prop} {x : List α} {u : Value} (hf : Kd.FK (Kd.slice e1 d) W okp x [u]) (hok : ∀ k, okp k → ok k) (hfr : ok W.heap.size) (hlt : ∀ k, okp k → k < W.heap.size) :
    Kd.N (Kd.slice e1 d) e (W.alloc (.cells #[u] e)) W.heap.size ok (.slice (some ⟨W.heap.size, 0, none⟩) 1 1) [x] := by
  have hb := below_alloc (Below.refl W.heap.size W) (.cells #[u] e)
  have hsz1 : (Kd.raw (Kd.slice e1 d).sz).sz = 1 := rfl
  refine ⟨fun k hk => ?_, [[u]], rfl, ⟨fun k hk => hk.symm, [u], ?_, ?_⟩, ?_⟩
  · have : W.heap.size = k := by simpa [Value.ownBlock] using hk
    exact this ▸ hfr
  · exact ⟨rfl, .inr ⟨W.heap.size, 1, #[u], rfl, Nat.le_refl _, blk_new W _, Nat.le_refl _, by unfold maxLen; omega, rfl, rfl⟩⟩
  · refine ⟨rfl, fun j c hj => ?_⟩
    rcases j with _ | j
    · obtain rfl := Option.some.inj hj
      exact ⟨rfl, rfl, (Kd.slice e1 d).K_one (Kd.FK_now hf)⟩
    · simp at hj
  · intro j y c hy hc
    rcases j with _ | j
    · obtain rfl := Option.some.inj hy
      obtain rfl := Option.some.inj hc
      exact Kd.FK_mono (Kd.FK_below hf hb) (fun k hk => ⟨hok k hk, fun e => by have h2 := hlt k hk; have : k = W.heap.size := by simpa [Value.ownBlock] using e
                                                                               omega⟩)
    · simp at hy
def okV (W : World) (ok : Nat → Prop) (v : Value) : Nat → Prop := fun j => ((ok j ∧ j < W.heap.size) ∨ W.heap.size ≤ j) ∧ some j ≠ v.ownBlock
def okT (W : World) (ok : Nat → Prop) : Nat → Prop := fun j => (ok j ∧ j < W.heap.size) ∨ W.heap.size ≤ j
set_option maxHeartbeats 4000000 in
set_option maxRecDepth 100000 in
theorem spec_weGoOn.callsG : ∀ (k : Nat) (rows : List (List Int)) (s : List Int) (X : List (List (List Int))) (A : Option Addr) (c : Nat) (As : Option Addr) (cs : Nat) (W : World) (ok : Nat → Prop), wgE k rows s = some X → X.length ≤ 1000000 →
    Kd.F (Kd.slice 3 (Kd.int .i64)) W ok A rows.length rows → rows.length ≤ c → Kd.C (Kd.int .i64) W As s.length s → s.length ≤ cs →
    Calls Try.prog 109 #[.slice A rows.length c, .slice As s.length cs] W (RetNM W ok X) := by
  intro k
  induction k using Nat.strongRecOn with
  | _ k ih =>
  intro rows s X A c As cs W ok hX hXl hF hc hC hcs
  cases k with
  | zero => simp [wgE] at hX
  | succ k =>
  rw [wgE] at hX
  split at hX
  case isFalse => cases hX
  rename_i hsm
  have hrl := hsm.1
  have hsl := hsm.2
  have HF := Aside0.mk (Kd.F_bound hF)
  have HC := Aside0.mk (Kd.C_F (Kd.heap_int _) hC)
  have HCN := Aside0.mk hc
  have HCS := Aside0.mk hcs
  have HB := Aside0.mk (Below.refl W.heap.size W)
  clear hF hC hsm hc hcs
  split at hX
  · rename_i he
    obtain ⟨ka, hka⟩ := (l1All_ev s 1 1 (by omega)).rounds
    have HA := Aside0.mk (fun W' (hb : Below W.heap.size W W') => spec_l1All.calls ka As cs s 1 1 _ W' (Kd.F_now (Kd.F_below HC.out hb)) HCS.out hka)
    have hez : (rows.length : Int) = (s.length : Int) := by omega
    obtain rfl := Option.some.inj hX
    clear hX hka
    cases ha : s.all fun x => inB x 1 1 with
    | false =>
      rw [ha] at HA
      rw [if_neg (by simp)]
      clear ha
      go_enter Try.func109, Try.ntmps109
      go_wp2_with (go_at_call 114; refine (HA.out _ HB.out).mono ?_; rintro e w1 ⟨rfl, hd⟩; have hb := hd.below; clear hd)
      go_ret
      exact ⟨_, rfl, Kd.N_nil _ _ _ _ _, hb⟩
    | true =>
      rw [ha] at HA
      rw [if_pos rfl]
      clear ha
      go_enter Try.func109, Try.ntmps109
      go_wp2_with (go_at_call 114; refine (HA.out _ HB.out).mono ?_; rintro e w1 ⟨rfl, hd⟩; have hb := hd.below; clear hd)
      go_ret
      refine ⟨_, rfl, ?_, below_alloc hb _⟩
      rw [← he]
      exact Kd.N_lower (one_N (okp := fun k => ok k ∧ k < W.heap.size) (Kd.FK_slice_mk HCN.out (Kd.F_below HF.out hb)) (fun k hk => .inl hk.1) (.inr hb.size) (fun k hk => by have := hk.2; have := hb.size; omega)) hb.size
  · rename_i he
    have hez : ¬ (rows.length : Int) = (s.length : Int) := by omega
    obtain ⟨L, hL, hX⟩ := Option.bind_eq_some_iff.1 hX
    split at hX
    case isFalse => cases hX
    rename_i hLl
    have HM := Aside0.mk hX
    have HR := Aside0.mk (fun W' (hb : Below W.heap.size W W') => spec_weRows.calls k As cs s (fun _ => False) none 0 [] 0 L W' (Kd.F_now (Kd.F_below HC.out hb)) HCS.out (Kd.V_nil _ _ _ _ _) hL)
    have IH := Aside0.mk ih
    clear hX hL ih
    go_enter Try.func109, Try.ntmps109
    go_wp2_with (go_at_call 142; refine (HR.out _ HB.out).mono ?_; rintro e w1 ⟨v1, rfl, hN, hb⟩; obtain ⟨Al, cl, rfl⟩ := Kd.N_slice hN; have HL := Aside0.mk (Kd.F_mono (ok' := fun j => W.heap.size ≤ j ∧ j < w1.heap.size) (Kd.F_bound (Kd.N_F hN)) (fun j hj => ⟨hj.1.elim (fun h => h.elim) id, hj.2⟩)); have HB1 := Aside0.mk hb; clear hN hb)
    have HSZ := Aside0.mk (show W.heap.size ≤ w1.heap.size from HB1.out.size)
    clear HR
    go_loopg [5, 24] k (fun kq s5 s24 wr => ∃ (i : Nat) (X2 Y : List (List (List Int))), i ≤ L.length ∧ s24 = .int .i64 i ∧ Aside0 (wgL kq rows s (L.drop i) = some Y) ∧ Aside0 (kq ≤ k) ∧ Aside0 (X2 ++ Y = X) ∧ Aside0 (Kd.N (Kd.slice 22 (Kd.slice 3 (Kd.int .i64))) 36 wr w1.heap.size (okT W ok) s5 X2) ∧ Aside0 (Below w1.heap.size w1 wr))
    case atStart => exact ⟨0, [], X, Nat.zero_le _, rfl, HM, ⟨Nat.le_refl _⟩, ⟨rfl⟩, ⟨Kd.N_nil _ _ _ _ _⟩, ⟨Below.refl _ _⟩⟩
    case round =>
      clear HM
      obtain ⟨i, X2, Y, hi, rfl, HM, HK, HX, HN, HBr⟩ := hrel
      cases gk with
      | zero => exact absurd HM.out (by simp [wgL])
      | succ k3 =>
      have H := HM.out
      by_cases hlt : i < L.length
      · have hz : (i : Int) < (L.length : Int) := by omega
        obtain ⟨r, hr⟩ : ∃ r, r = L[i] := ⟨_, rfl⟩
        rw [List.drop_eq_getElem_cons hlt, ← hr, wgL] at H
        split at H
        case isFalse => cases H
        rename_i hrs
        obtain ⟨a, ha, H⟩ := Option.bind_eq_some_iff.1 H
        obtain ⟨b2, hb2, H⟩ := Option.bind_eq_some_iff.1 H
        obtain rfl := Option.some.inj H
        obtain ⟨ad, cc, hA, hcl1, hFK, hcell, _⟩ := Kd.F_get HL.out ([] : List Int) (i : Int) (by omega) (by omega)
        subst hA
        obtain ⟨Ar, cr, rfl, hcr, hFx⟩ := Kd.FK_slice_open hFK
        have hx := hcell 0 _ rfl
        rw [Int.toNat_natCast, show (Kd.slice 3 (Kd.int .i64)).sz = 1 from rfl, Nat.mul_one, Nat.add_zero] at hx
        have hge : L.getD i [] = r := by rw [hr, List.getD_eq_getElem?_getD, List.getElem?_eq_getElem hlt]; rfl
        rw [Int.toNat_natCast, hge] at hcr hFx
        rw [hge] at hx
        replace hx := pw_cell_below HBr.out hx
        have HXF := Aside0.mk hFx
        have HCR := Aside0.mk hcr
        have HA := Aside0.mk ha
        have HB2 := Aside0.mk hb2
        obtain ⟨wo, rfl⟩ : ∃ wo : World, wo = wr := ⟨_, rfl⟩
        have HBo := Aside0.mk (HB1.out.trans (HBr.out.mono HSZ.out))
        have HOW := Aside0.mk (spec_l1Own.calls As cs s s wo (Kd.F_now (Kd.F_below HC.out HBo.out)) HCS.out (by unfold spec_l1Own.f; simp only [Option.bind_some, List.length_nil, List.nil_append]; rw [if_pos (by omega)]))
        clear HM H ha hb2 hFK hcell hcl1 hcr hFx hge hr
        go_wp2_with (go_at_call 110; refine HOW.out.mono ?_; rintro e w2 ⟨v8, rfl, hR8, hb8⟩; obtain ⟨A8, c8, rfl⟩ := Kd.R_slice hR8; have HR8 := Aside0.mk hR8; have HB8 := Aside0.mk hb8; clear hR8 hb8)
        go_loopg [32] r.length (fun gj s32 wr2 => ∃ j : Nat, j ≤ r.length ∧ r.length - j ≤ gj ∧ s32 = .int .i64 j ∧ Aside0 (Kd.R (Kd.int .i64) 3 wr2 wo.heap.size (fun _ => True) (.slice A8 s.length c8) (addR s r j)) ∧ Aside0 (Below wo.heap.size wo wr2))
        case atStart => exact ⟨0, Nat.zero_le _, Nat.le_refl _, rfl, HR8, HB8⟩
        case round =>
          clear HR8 HB8 HOW hx
          obtain ⟨j, hj, hgj, rfl, HR8, HB8⟩ := hrel
          by_cases hjt : j < r.length
          · have hjz : (j : Int) < (r.length : Int) := by omega
            have hjs : (j : Int) < (s.length : Int) := by omega
            have hcl := addR_length s r j
            obtain ⟨ad8, rfl, _⟩ := (Kd.R_reads' HR8.out).2.2.2.2 (by rw [hcl]; omega)
            obtain ⟨g8, rfl⟩ := Kd.R_head HR8.out
            have hb8 := Kd.R_base HR8.out g8 rfl
            obtain ⟨adr, e1, hy⟩ := Kd.at_int (Kd.F_now (Kd.F_below HXF.out (HBr.out.trans (HB8.out.mono HBr.out.size)))) (j : Int) (by omega) hjz
            subst e1
            obtain ⟨hc8, hf8⟩ := Kd.R_celln 0 HR8.out (j : Int) (by omega) hjs
            have hp8 := Kd.R_putn HR8.out (j : Int) (wrap64 (rd (addR s r j) j + rd r j))
            have hs8 := addR_succ s r j
            simp only [Int.toNat_natCast] at hy hc8 hf8 hp8
            rw [← hs8] at hp8
            have HP8 := Aside0.mk hp8
            have HBN := Aside0.mk (HB8.out.setCell (p := ⟨g8, j, none⟩) hb8 (.int .i64 (wrap64 (rd (addR s r j) j + rd r j))))
            have hc9 : wr.cell? ⟨g8, j, none⟩ = some (.int .i64 (rd (addR s r j) j)) := hc8
            have hf9 : wr.frozen? ⟨g8, j, none⟩ = false := hf8
            obtain ⟨cu, hcu⟩ : ∃ cu, cu = rd (addR s r j) j := ⟨_, rfl⟩
            rw [← hcu] at HP8 HBN hc9
            clear hc8 hf8 hp8 hs8 hcu hcl
            go_wp2
            go_roundg (r.length - (j + 1))
            case measure => omega
            case rel => exact ⟨j + 1, by omega, by omega, by go_num, HP8, HBN⟩
          · have hjz : ¬ (j : Int) < (r.length : Int) := by omega
            have hje : j = r.length := by omega
            subst hje
            have hlt5 := Kd.N_lt HN.out
            have hsz1 := HBr.out.size
            have hsz8 := HB8.out.size
            have HFV := Aside0.mk (show ∀ j, wr.heap.size ≤ j → okV W ok u5 j from fun j hj => ⟨.inr (by have := HSZ.out; omega), fun e => by have := hlt5 j e.symm; omega⟩)
            have HBW := Aside0.mk (show Below W.heap.size W wr from HB1.out.trans ((HBr.out.trans (HB8.out.mono hsz1)).mono HSZ.out))
            have HBV := Aside0.mk (show Below w1.heap.size w1 wr from HBr.out.trans (HB8.out.mono hsz1))
            have HE := Aside0.mk (show Kd.N (Kd.slice 3 (Kd.int .i64)) 22 (wr.alloc (.cells #[] 22)) wr.heap.size (okV W ok u5) (.slice (some ⟨wr.heap.size, 0, none⟩) 0 0) ([] : List (List Int)) from Kd.S_N (S_empty (blk_new wr _) (Nat.le_refl _) (HFV.out _ (Nat.le_refl _))))
            have HN5 := Aside0.mk (Kd.N_below (Kd.N_bound HN.out) HB8.out)
            have HRW := Aside0.mk (Kd.F_below HF.out (HBW.out.trans ((below_alloc (Below.refl wr.heap.size wr) (.cells #[] 22)).mono (by have := HSZ.out; omega))))
            have HOK := Aside0.mk (show ∀ j, (ok j ∧ j < W.heap.size) → okV W ok u5 j ∧ some j ≠ (Value.slice (some ⟨wr.heap.size, 0, none⟩) 0 0).ownBlock from fun j hj => ⟨⟨.inl hj, fun e => by have := Kd.N_base HN.out j e.symm; have := hj.2; have := HSZ.out; omega⟩, fun e => by have h1 := hj.2; have h2 := own_at e; have := HSZ.out; omega⟩)
            have HOL := Aside0.mk (show ∀ j, (W.heap.size ≤ j ∧ j < w1.heap.size) → okV W ok u5 j from fun j hj => ⟨.inr hj.1, fun e => by have := Kd.N_base HN.out j e.symm; have := hj.2; omega⟩)
            have HSL := Aside0.mk (addR_length s r r.length)
            obtain ⟨s9, hs9⟩ : ∃ z, z = addR s r r.length := ⟨_, rfl⟩
            rw [← hs9] at HSL HA HR8
            have HXA := Aside0.mk (show (X2 ++ a).length + b2.length ≤ 1000000 by have h1 := hXl; rw [← HX.out, List.length_append, List.length_append] at h1; rw [List.length_append]; omega)
            clear HN HB8 HBr hs9
            go_wp2_with (first
              | ((with_reducible refine gate_builtin (b := .append) (xs := #[.tmp 46, .tmp 47]) rfl ?_); at_builtin; refine Kd.N_append_rows (Kd.slice 3 (Kd.int .i64)) (w0 := wr) wr.heap.size rfl (.tmp 46) (.tmp 47) 36 22 (.slice none 0 0) 24 rfl Try.underlying36 info_rowsU rfl (by decide) (by omega) (.slice (some ⟨wr.heap.size, 0, none⟩) 0 0) ([] : List (List Int)) rows _ _ _ (okV W ok u5) (fun k => ok k ∧ k < W.heap.size) rfl rfl HE.out HRW.out HOK.out (fun j hj => HFV.out j (Nat.le_trans (by simp) hj)) (below_alloc (Below.refl _ _) _) (by simp) (by simp only [List.length_nil]; omega) ?_; intro v7 w7 ho7 hb7 hg7 hat7; rw [List.nil_append] at ho7; have HN7 := Aside0.mk ho7; have HB7 := Aside0.mk hb7; have HG7 := Aside0.mk (show ∀ k, v7.ownBlock = some k → wr.heap.size ≤ k from fun k e => hat7.elim (fun h => by rw [h] at e; have h2 := own_at e.symm; omega) (fun ⟨b, h, hb⟩ => by rw [h] at e; injection e with e; subst e; exact Nat.le_trans (by simp) hb)); clear ho7 hb7 hg7 hat7)
              | ((with_reducible refine gate_builtin (b := .append) (xs := #[.tmp 48, .tmp 50]) rfl ?_); at_builtin; refine Kd.N_append (Kd.slice 3 (Kd.int .i64)) (w0 := wr) wr.heap.size rfl (.tmp 48) (.tmp 50) 36 22 (.slice none 0 0) 24 rfl Try.underlying36 info_rowsU rfl (by decide) (by omega) v7 rows r [.slice Ar r.length cr] (okV W ok u5) (fun k => W.heap.size ≤ k ∧ k < w1.heap.size) rfl rfl (Kd.FK_slice_mk HCR.out (Kd.F_below HXF.out (HBV.out.trans (HB7.out.mono (Nat.le_trans hsz1 hsz8))))) (fun j hj => ⟨HOL.out j hj, fun e => by have := HG7.out j e.symm; have := hj.2; omega⟩) (fun j hj => HFV.out j (Nat.le_trans HB7.out.size hj)) HN7.out HB7.out HB7.out.size (by omega) ?_; intro v8 w8 ho8 hb8 hg8 hat8; obtain ⟨R9, hR9⟩ : ∃ z, z = rows ++ [r] := ⟨_, rfl⟩; rw [← hR9] at ho8 HA; obtain ⟨A9, c9, rfl⟩ := Kd.N_slice ho8; have HN8 := Aside0.mk ho8; have HB8 := Aside0.mk hb8; clear ho8 hb8 hg8 hat8 hR9)
              | (go_at_call 109; have hh := IH.out k3 (by have := HK.out; omega) R9 s9 a A9 c9 A8 c8 w8 (okV W ok u5) HA.out (by have := HXA.out; rw [List.length_append] at this; omega) (Kd.N_F HN8.out) (Kd.N_reads' HN8.out).2.1 (Kd.C_below (Kd.R_reads' HR8.out).2.2 HB8.out) (by have := (Kd.R_reads' HR8.out).2.1; have := HSL.out; omega); rw [HSL.out] at hh; refine hh.mono ?_; rintro e w9 ⟨v9, rfl, hN9, hb9⟩; obtain ⟨A53, c53, rfl⟩ := Kd.N_slice hN9; have HN9 := Aside0.mk hN9; have HB9 := Aside0.mk (HB8.out.trans (hb9.mono HB8.out.size)); clear hN9 hb9 hh)
              | ((with_reducible refine gate_builtin (b := .append) (xs := #[.tmp 45, .tmp 53]) rfl ?_); at_builtin; refine Kd.N_append_rows (Kd.slice 22 (Kd.slice 3 (Kd.int .i64))) (w0 := w1) w1.heap.size rfl (.tmp 45) (.tmp 53) 43 36 (.slice none 0 0) 24 rfl Try.underlying43 info_tabsD rfl (by decide) (by omega) u5 X2 a _ _ _ (okT W ok) (okV W ok u5) rfl rfl (Kd.N_mono (Kd.N_below HN5.out HB9.out) (fun k hk => hk.1)) (Kd.N_F (Kd.N_mono HN9.out (fun j hj => hj.elim id (fun h => HFV.out j (Nat.le_trans HB8.out.size h))))) (fun _ h => h) (fun j hj => .inr (by have := HB9.out.size; have := HSZ.out; omega)) (HBV.out.trans (HB9.out.mono (Nat.le_trans hsz1 hsz8))) (by have := HB9.out.size; omega) (by have := HXA.out; rw [List.length_append] at this; omega) ?_; intro v10 w10 ho10 hb10 hg10 hat10; have HN10 := Aside0.mk ho10; have HB10 := Aside0.mk hb10; clear ho10 hb10 hg10 hat10))
            go_roundg k3
            case measure => have := HK.out; omega
            case rel => exact ⟨i + 1, X2 ++ a, b2, by omega, by go_num, HB2, ⟨by have := HK.out; omega⟩, ⟨by rw [List.append_assoc]; exact HX.out⟩, HN10, HB10⟩
      · have hz : ¬ (i : Int) < (L.length : Int) := by omega
        have hie : i = L.length := by omega
        subst hie
        rw [List.drop_length, wgL] at H
        obtain rfl := Option.some.inj H
        have HX3 := Aside0.mk (show X2 = X by have := HX.out; rwa [List.append_nil] at this)
        clear H HM
        go_wp2
        go_ret
        exact ⟨_, rfl, by rw [← HX3.out]; exact Kd.N_lower (Kd.N_mono HN.out (fun k hk => hk.imp (fun h => h.1) id)) HSZ.out, HB1.out.trans (HBr.out.mono HSZ.out)⟩
end Go.Proofs.Ytdcdkckpmkfjdaa.L

namespace Go.Proofs.Ytdcdkckpmkfjdaa.P
open Go.RowKit Go.Proofs.YtdcdkckpmkfjdaaW.PrintWords Go.Proofs.YtdcdkckpmkfjdaaW.PrintLast Go.Proofs.YtdcdkckpmkfjdaaW.PrintMore
attribute [local go_sem] max2_int min2_int max_two min_two max_three min_three max_four min_four   -- for this text's walks alone
set_option linter.unusedVariables false
set_option linter.unusedSimpArgs false

def impl_fitsSums.l0 : Nat → List Int → Bool → List Int → Int → Int → Option (Bool)
 | 0, _, _, _, _, _ => none
 | k + 1, x0, x2, x10, x11, x12 => if x12 < x11 then (if 0 ≤ x12 then (if x12 < (x10.length : Int) then (if x12 < (x0.length : Int) then ((impl_within.f (wrap64 ((rd x0 x12) + (rd x10 x12))) 0 1).bind fun t576 => (if t576 = true then (if x2 = true then (if (wrap64 ((rd x0 x12) + (rd x10 x12))) = 1 then (impl_fitsSums.l0 k x0 x2 x10 x11 (wrap64 (x12 + 1))) else (some false)) else (impl_fitsSums.l0 k x0 x2 x10 x11 (wrap64 (x12 + 1)))) else (some false))) else (none)) else (none)) else (none)) else (some true)
def impl_fitsSums.f (k : Nat) (l0 : List Int) (l1 : List Int) (a2 : Bool) : Option (Bool) := impl_fitsSums.l0 k l0 a2 l1 (l1.length : Int) 0
theorem impl_fitsSums.mono_l : ∀ k, (∀ y0 y1 y2 y3 y4, LeO (impl_fitsSums.l0 k y0 y1 y2 y3 y4) (impl_fitsSums.l0 (k + 1) y0 y1 y2 y3 y4))
 | 0 => fun _ _ _ _ _ r h => by simp [impl_fitsSums.l0] at h
 | k + 1 => by
  have ih0 := impl_fitsSums.mono_l k
  ·intro y0 y1 y2 y3 y4
   unfold impl_fitsSums.l0
   repeat' first
   | (with_reducible exact ih0 _ _ _ _ _)
   | (with_reducible exact LeO.refl _)
   | (with_reducible exact LeO.none _)
   | (with_reducible refine LeO.ite ?_ ?_)
   | (with_reducible refine LeO.bind ?_ (fun _ => ?_))
   | exact ih0 _ _ _ _ _
   | exact LeO.none _
   | refine LeO.ite ?_ ?_
   | refine LeO.bind ?_ (fun _ => ?_)
theorem impl_fitsSums.mono : ∀ a0 a1 a2 k, LeO (impl_fitsSums.f k a0 a1 a2) (impl_fitsSums.f (k + 1) a0 a1 a2) := by
 intro a0 a1 a2 k
 have ih0 := impl_fitsSums.mono_l k
 unfold impl_fitsSums.f
 repeat' first
   | (with_reducible exact ih0 _ _ _ _ _)
   | (with_reducible exact LeO.refl _)
   | (with_reducible exact LeO.none _)
   | (with_reducible refine LeO.ite ?_ ?_)
   | (with_reducible refine LeO.bind ?_ (fun _ => ?_))
   | exact ih0 _ _ _ _ _
   | exact LeO.none _
   | refine LeO.ite ?_ ?_
   | refine LeO.bind ?_ (fun _ => ?_)
set_option maxHeartbeats 8000000 in
set_option maxRecDepth 100000 in
theorem impl_fitsSums.calls (k : Nat) (A0 : Option Addr) (c0 : Nat) (l0 : List Int) (A1 : Option Addr) (c1 : Nat) (l1 : List Int) (a2 : Bool) (r : Bool) (w : World) (hr0 : Kd.C (Kd.int .i64) w A0 l0.length l0) (hc0 : l0.length ≤ c0) (hr1 : Kd.C (Kd.int .i64) w A1 l1.length l1) (hc1 : l1.length ≤ c1) (h : impl_fitsSums.f k l0 l1 a2 = some r) :
  Calls Try.prog 123 #[.slice A0 l0.length c0, .slice A1 l1.length c1, .bool a2] w fun e w' => e = .returned (.bool r) ∧ Drawn0 w w' := by
 have HR0 := Aside0.mk hr0
 have HC0 := Aside0.mk hc0
 clear hr0 hc0
 have HR1 := Aside0.mk hr1
 have HC1 := Aside0.mk hc1
 clear hr1 hc1
 have H : (impl_fitsSums.l0 k l0 a2 l1 (l1.length : Int) 0) = some r := h
 clear h
 have H' := Aside0.mk H
 clear H
 go_enter Try.func123, Try.ntmps123
 go_wp2
 go_loopg [12] k (fun kq v12 w' => ∃ (x12_1 : Int), v12 = .int .i64 x12_1 ∧ Aside0 (impl_fitsSums.l0 kq l0 a2 l1 (l1.length : Int) x12_1 = some r) ∧ Aside0 (kq ≤ k) ∧ Drawn0 w w')
 case atStart => exact ⟨(0), (by first | rfl | (simp; done) | (simp [*]; done)), H', ⟨Nat.le_refl _⟩, by repeat (first | exact Drawn0.refl _ | apply Drawn0.step)⟩
 case round =>
  clear H'
  try clear c1
  try clear p2
  obtain ⟨x12_1, rfl, HA, HK1, ⟨m1, rfl⟩⟩ := hrel
  cases gk with
  | zero => exact absurd HA.out (by simp [impl_fitsSums.l0])
  | succ k1 =>
   have H := HA.out
   clear HA
   simp only [impl_fitsSums.l0] at H
   by_cases c4 : x12_1 < (l1.length : Int)
   ·rw [if_pos c4] at H
    have c4b0 : decide (x12_1 < (l1.length : Int)) = true := decide_eq_true c4
    clear c4
    by_cases c5 : 0 ≤ x12_1
    ·rw [if_pos c5] at H
     have c5b0 : decide (0 ≤ x12_1) = true := decide_eq_true c5
     clear c5
     by_cases c6 : x12_1 < (l1.length : Int)
     ·rw [if_pos c6] at H
      have c6b0 : decide (x12_1 < (l1.length : Int)) = true := decide_eq_true c6
      clear c6
      by_cases c7 : x12_1 < (l0.length : Int)
      ·rw [if_pos c7] at H
       have c7b0 : decide (x12_1 < (l0.length : Int)) = true := decide_eq_true c7
       clear c7
       replace H := Option.bind_eq_some_iff.mp H
       obtain ⟨t576, A80, H⟩ := H
       replace H : (if t576 = true then (if a2 = true then (if (wrap64 ((rd l0 x12_1) + (rd l1 x12_1))) = 1 then (impl_fitsSums.l0 k1 l0 a2 l1 (l1.length : Int) (wrap64 (x12_1 + 1))) else (some false)) else (impl_fitsSums.l0 k1 l0 a2 l1 (l1.length : Int) (wrap64 (x12_1 + 1)))) else (some false)) = some r := H
       have A8 := Aside0.mk A80
       clear A80
       by_cases c9 : t576 = true
       ·subst c9
        have H1 : (if a2 = true then (if (wrap64 ((rd l0 x12_1) + (rd l1 x12_1))) = 1 then (impl_fitsSums.l0 k1 l0 a2 l1 (l1.length : Int) (wrap64 (x12_1 + 1))) else (some false)) else (impl_fitsSums.l0 k1 l0 a2 l1 (l1.length : Int) (wrap64 (x12_1 + 1)))) = some r := by rw [if_pos rfl] at H; exact H
        clear H
        have H := H1
        clear H1
        by_cases c10 : a2 = true
        ·subst c10
         have H1 : (if (wrap64 ((rd l0 x12_1) + (rd l1 x12_1))) = 1 then (impl_fitsSums.l0 k1 l0 true l1 (l1.length : Int) (wrap64 (x12_1 + 1))) else (some false)) = some r := by rw [if_pos rfl] at H; exact H
         clear H
         have H := H1
         clear H1
         by_cases c11 : (wrap64 ((rd l0 x12_1) + (rd l1 x12_1))) = 1
         ·rw [if_pos c11] at H
          have c11b0 : ((wrap64 ((rd l0 x12_1) + (rd l1 x12_1))) == 1) = true := beq_iff_eq.mpr c11
          have c11b1 : ((wrap64 ((rd l0 x12_1) + (rd l1 x12_1))) != 1) = false := bne_eq_false_iff_eq.mpr c11
          clear c11
          have H' := Aside0.mk H
          clear H
          have p574 : 0 ≤ (x12_1 : Int) := of_decide_eq_true (by first | (with_reducible assumption) | assumption)
          have q574 : x12_1 < (l1.length : Int) := of_decide_eq_true (by first | (with_reducible assumption) | assumption)
          obtain ⟨ad574, e574, hx574_0⟩ := Kd.at_int HR1.out x12_1 p574 q574
          cases e574
          replace p574 := eq_true p574
          replace q574 := eq_true q574
          have p575 : 0 ≤ (x12_1 : Int) := of_decide_eq_true (by first | (with_reducible assumption) | assumption)
          have q575 : x12_1 < (l0.length : Int) := of_decide_eq_true (by first | (with_reducible assumption) | assumption)
          obtain ⟨ad575, e575, hx575_0⟩ := Kd.at_int HR0.out x12_1 p575 q575
          cases e575
          replace p575 := eq_true p575
          replace q575 := eq_true q575
          go_wp2_with (first | ((with_reducible refine gate_callee (f := 93) rfl ?_); refine goesL_ (some 24) rfl rfl Try.func93 (by kernel_rfl) rfl #[.int .i64 (wrap64 ((rd l0 x12_1) + (rd l1 x12_1))), .int .i64 0, .int .i64 1] rfl (by (try simp only [List.map_toArray, List.map_cons, List.map_nil]); first | done | rfl | (simp only [List.length_drop, List.length_take]; rfl)) ?_; (with_reducible refine (impl_within.calls (wrap64 ((rd l0 x12_1) + (rd l1 x12_1))) 0 1 true _ A8.out).mono ?_); rintro e w' ⟨rfl, ⟨nd, rfl⟩⟩; refine ⟨_, rfl, ?_⟩))
          go_roundg k1
          case measure => have := HK1.out; omega
          case rel => exact ⟨(wrap64 (x12_1 + 1)), (by first | rfl | (simp; done) | (simp [*]; done)), H', ⟨by have := HK1.out; omega⟩, by repeat (first | exact Drawn0.refl _ | apply Drawn0.step)⟩
         ·rw [if_neg c11] at H
          have c11b0 : ((wrap64 ((rd l0 x12_1) + (rd l1 x12_1))) == 1) = false := beq_eq_false_iff_ne.mpr c11
          have c11b1 : ((wrap64 ((rd l0 x12_1) + (rd l1 x12_1))) != 1) = true := bne_iff_ne.mpr c11
          obtain rfl := Option.some.inj H
          have p574 : 0 ≤ (x12_1 : Int) := of_decide_eq_true (by first | (with_reducible assumption) | assumption)
          have q574 : x12_1 < (l1.length : Int) := of_decide_eq_true (by first | (with_reducible assumption) | assumption)
          obtain ⟨ad574, e574, hx574_0⟩ := Kd.at_int HR1.out x12_1 p574 q574
          cases e574
          replace p574 := eq_true p574
          replace q574 := eq_true q574
          have p575 : 0 ≤ (x12_1 : Int) := of_decide_eq_true (by first | (with_reducible assumption) | assumption)
          have q575 : x12_1 < (l0.length : Int) := of_decide_eq_true (by first | (with_reducible assumption) | assumption)
          obtain ⟨ad575, e575, hx575_0⟩ := Kd.at_int HR0.out x12_1 p575 q575
          cases e575
          replace p575 := eq_true p575
          replace q575 := eq_true q575
          go_wp2_with (first | ((with_reducible refine gate_callee (f := 93) rfl ?_); refine goesL_ (some 24) rfl rfl Try.func93 (by kernel_rfl) rfl #[.int .i64 (wrap64 ((rd l0 x12_1) + (rd l1 x12_1))), .int .i64 0, .int .i64 1] rfl (by (try simp only [List.map_toArray, List.map_cons, List.map_nil]); first | done | rfl | (simp only [List.length_drop, List.length_take]; rfl)) ?_; (with_reducible refine (impl_within.calls (wrap64 ((rd l0 x12_1) + (rd l1 x12_1))) 0 1 true _ A8.out).mono ?_); rintro e w' ⟨rfl, ⟨nd, rfl⟩⟩; refine ⟨_, rfl, ?_⟩))
          go_ret
          exact ⟨by first | rfl | (simp; done) | (simp [*]; done), by repeat (first | exact Drawn0.refl _ | apply Drawn0.step)⟩
        ·replace c10 := Bool.eq_false_iff.mpr c10
         subst c10
         have H1 : (impl_fitsSums.l0 k1 l0 false l1 (l1.length : Int) (wrap64 (x12_1 + 1))) = some r := by rw [if_neg (show ¬ (false = true) by decide)] at H; exact H
         clear H
         have H := H1
         clear H1
         have H' := Aside0.mk H
         clear H
         have p574 : 0 ≤ (x12_1 : Int) := of_decide_eq_true (by first | (with_reducible assumption) | assumption)
         have q574 : x12_1 < (l1.length : Int) := of_decide_eq_true (by first | (with_reducible assumption) | assumption)
         obtain ⟨ad574, e574, hx574_0⟩ := Kd.at_int HR1.out x12_1 p574 q574
         cases e574
         replace p574 := eq_true p574
         replace q574 := eq_true q574
         have p575 : 0 ≤ (x12_1 : Int) := of_decide_eq_true (by first | (with_reducible assumption) | assumption)
         have q575 : x12_1 < (l0.length : Int) := of_decide_eq_true (by first | (with_reducible assumption) | assumption)
         obtain ⟨ad575, e575, hx575_0⟩ := Kd.at_int HR0.out x12_1 p575 q575
         cases e575
         replace p575 := eq_true p575
         replace q575 := eq_true q575
         go_wp2_with (first | ((with_reducible refine gate_callee (f := 93) rfl ?_); refine goesL_ (some 24) rfl rfl Try.func93 (by kernel_rfl) rfl #[.int .i64 (wrap64 ((rd l0 x12_1) + (rd l1 x12_1))), .int .i64 0, .int .i64 1] rfl (by (try simp only [List.map_toArray, List.map_cons, List.map_nil]); first | done | rfl | (simp only [List.length_drop, List.length_take]; rfl)) ?_; (with_reducible refine (impl_within.calls (wrap64 ((rd l0 x12_1) + (rd l1 x12_1))) 0 1 true _ A8.out).mono ?_); rintro e w' ⟨rfl, ⟨nd, rfl⟩⟩; refine ⟨_, rfl, ?_⟩))
         go_roundg k1
         case measure => have := HK1.out; omega
         case rel => exact ⟨(wrap64 (x12_1 + 1)), (by first | rfl | (simp; done) | (simp [*]; done)), H', ⟨by have := HK1.out; omega⟩, by repeat (first | exact Drawn0.refl _ | apply Drawn0.step)⟩
       ·replace c9 := Bool.eq_false_iff.mpr c9
        subst c9
        have H1 : (some false) = some r := by rw [if_neg (show ¬ (false = true) by decide)] at H; exact H
        clear H
        have H := H1
        clear H1
        obtain rfl := Option.some.inj H
        have p574 : 0 ≤ (x12_1 : Int) := of_decide_eq_true (by first | (with_reducible assumption) | assumption)
        have q574 : x12_1 < (l1.length : Int) := of_decide_eq_true (by first | (with_reducible assumption) | assumption)
        obtain ⟨ad574, e574, hx574_0⟩ := Kd.at_int HR1.out x12_1 p574 q574
        cases e574
        replace p574 := eq_true p574
        replace q574 := eq_true q574
        have p575 : 0 ≤ (x12_1 : Int) := of_decide_eq_true (by first | (with_reducible assumption) | assumption)
        have q575 : x12_1 < (l0.length : Int) := of_decide_eq_true (by first | (with_reducible assumption) | assumption)
        obtain ⟨ad575, e575, hx575_0⟩ := Kd.at_int HR0.out x12_1 p575 q575
        cases e575
        replace p575 := eq_true p575
        replace q575 := eq_true q575
        go_wp2_with (first | ((with_reducible refine gate_callee (f := 93) rfl ?_); refine goesL_ (some 24) rfl rfl Try.func93 (by kernel_rfl) rfl #[.int .i64 (wrap64 ((rd l0 x12_1) + (rd l1 x12_1))), .int .i64 0, .int .i64 1] rfl (by (try simp only [List.map_toArray, List.map_cons, List.map_nil]); first | done | rfl | (simp only [List.length_drop, List.length_take]; rfl)) ?_; (with_reducible refine (impl_within.calls (wrap64 ((rd l0 x12_1) + (rd l1 x12_1))) 0 1 false _ A8.out).mono ?_); rintro e w' ⟨rfl, ⟨nd, rfl⟩⟩; refine ⟨_, rfl, ?_⟩))
        go_ret
        exact ⟨by first | rfl | (simp; done) | (simp [*]; done), by repeat (first | exact Drawn0.refl _ | apply Drawn0.step)⟩
      ·rw [if_neg c7] at H
       exact absurd H (by simp)
     ·rw [if_neg c6] at H
      exact absurd H (by simp)
    ·rw [if_neg c5] at H
     exact absurd H (by simp)
   ·rw [if_neg c4] at H
    have c4b0 : decide (x12_1 < (l1.length : Int)) = false := decide_eq_false c4
    clear c4
    obtain rfl := Option.some.inj H
    go_wp2
    go_ret
    exact ⟨by first | rfl | (simp; done) | (simp [*]; done), by repeat (first | exact Drawn0.refl _ | apply Drawn0.step)⟩

end Go.Proofs.Ytdcdkckpmkfjdaa.P

namespace Go.Proofs.Ytdcdkckpmkfjdaa
open Go.RowKit Go.Proofs.Ytdcdkckpmkfjdaa.P Go.Proofs.Ytdcdkckpmkfjdaa.L Go.Proofs.YtdcdkckpmkfjdaaW.PrintWords Go.Proofs.YtdcdkckpmkfjdaaW.PrintLast Go.Proofs.YtdcdkckpmkfjdaaW.PrintMore
set_option linter.unusedVariables false
set_option linter.unusedSimpArgs false

/-- A row taken from the sums of the columns. -/
def subR (s r : List Int) (j : Nat) : List Int := (List.range j).foldl (fun s j => s.set j (wrap64 (rd s j - rd r j))) s
theorem subR_succ (s r : List Int) (j : Nat) : subR s r (j + 1) = (subR s r j).set j (wrap64 (rd (subR s r j) j - rd r j)) := by
  unfold subR
  rw [List.range_succ, List.foldl_append]
  rfl
theorem subR_length (s r : List Int) : ∀ j, (subR s r j).length = s.length
  | 0 => rfl
  | j + 1 => by rw [subR_succ, List.length_set, subR_length s r j]
mutual
def esL : Nat → Nat → List (List Int) → List (List Int) → List Int → List (List Int) → Option (List (List (List Int)))
  | 0, _, _, _, _, _ => none
  | k + 1, n, R, rows, s, L => match L with
    | [] => some []
    | r :: rest => (impl_fitsSums.f 300 s r (decide (rows.length + 1 = n))).bind fun b => if b = true then (if r.length ≤ s.length ∧ subR (addR s r r.length) r r.length = s then (esE k n R (rows ++ [r]) (addR s r r.length)).bind fun a => (esL k n R rows s rest).bind fun b2 => some (a ++ b2) else none) else esL k n R rows s rest
def esE : Nat → Nat → List (List Int) → List (List Int) → List Int → Option (List (List (List Int)))
  | 0, _, _, _, _ => none
  | k + 1, n, R, rows, s => if rows.length = n then some [rows] else esL k n R rows s R
end
/-- The variables of the closure. -/
structure EsEnv (W : World) (bn bf br bs be gs n cr g : Nat) (lb : Array Value) (Ar : Option Addr) (R : List (List Int)) : Prop where
  num : W.heap[bn]? = some (.cells #[.int .i64 n] 3 (0, 0))
  fn : W.heap[bf]? = some (.cells #[.func (.func g) #[] lb] 66 (0, 0))
  rows : W.heap[br]? = some (.cells #[.slice Ar R.length cr] 36 (0, 0))
  sums : W.heap[bs]? = some (.cells #[.slice (some ⟨gs, 0, none⟩) n n] 22 (0, 0))
  each : W.heap[be]? = some (.cells #[.func (.func 122) #[] #[.pointer (some ⟨bn, 0, none⟩), .pointer (some ⟨bf, 0, none⟩), .pointer (some ⟨br, 0, none⟩), .pointer (some ⟨bs, 0, none⟩), .pointer (some ⟨be, 0, none⟩)]] 66 (0, 0))
theorem EsEnv.touch {W W' : World} {bn bf br bs be gs n cr g : Nat} {lb : Array Value} {Ar : Option Addr} {R : List (List Int)} {S : Nat → Prop} (h : EsEnv W bn bf br bs be gs n cr g lb Ar R) (ht : Touch W W' S) (h0 : ¬ S bn ∧ ¬ S bf ∧ ¬ S br ∧ ¬ S bs ∧ ¬ S be) : EsEnv W' bn bf br bs be gs n cr g lb Ar R :=
  ⟨ht.blk h.num h0.1, ht.blk h.fn h0.2.1, ht.blk h.rows h0.2.2.1, ht.blk h.sums h0.2.2.2.1, ht.blk h.each h0.2.2.2.2⟩
/-- What is only read while the state has the blocks ok. -/
def roE (W : World) (ok : Nat → Prop) (gs : Nat) : Nat → Prop := fun k => (¬ ok k ∧ k ≠ gs) ∧ k < W.heap.size
def envE (bn bf br bs be gs : Nat) (ok : Nat → Prop) : Prop := (¬ ok bn ∧ ¬ ok bf ∧ ¬ ok br ∧ ¬ ok bs ∧ ¬ ok be ∧ ¬ ok gs) ∧ (bn ≠ gs ∧ bf ≠ gs ∧ br ≠ gs ∧ bs ≠ gs ∧ be ≠ gs)
/-- What the closure leaves. -/
def EsPost (St : Nat → World → (Nat → Prop) → Prop) (j : Nat) (W : World) (ok : Nat → Prop) (gs : Nat) (s : List Int) (e : Ending) (W' : World) : Prop :=
  e = .returned (.bool true) ∧ ∃ ok', St j W' ok' ∧ intBlk W' gs s ∧ Touch W W' (fun k => ok k ∨ k = gs) ∧ ∀ k, ok' k → ok k ∨ W.heap.size ≤ k
set_option maxHeartbeats 4000000 in
set_option maxRecDepth 100000 in
theorem eachSigns_1.calls (St : Nat → World → (Nat → Prop) → Prop) (hSt : Stays St) (n cr g : Nat) (lb : Array Value) (Ar : Option Addr) (R : List (List Int)) (hn : n ≤ 100) (hR : R.length ≤ 1000) (hcr : R.length ≤ cr) (bn bf br bs be gs : Nat) (All : List (List (List Int)))
    (eg : ∀ args w, (callFunc g args).run Try.prog w = .ok (.enter g args) w)
    (hf : ∀ (j : Nat) (T : List (List Int)) (A : Option Addr) (c : Nat) (W : World) (ok : Nat → Prop), All[j]? = some T → St j W ok → Kd.F (Kd.slice 3 (Kd.int .i64)) W (fun k => ¬ ok k ∧ k < W.heap.size) A T.length T → T.length ≤ c → Calls Try.prog g (#[.slice A T.length c] ++ lb) W (Stepped St (j + 1) W ok)) :
    ∀ (k : Nat) (rows : List (List Int)) (s : List Int) (X : List (List (List Int))) (j : Nat) (A : Option Addr) (c : Nat) (W : World) (ok : Nat → Prop),
    esE k n R rows s = some X → rows.length + k ≤ 100000 → s.length = n → (∀ i, i < X.length → All[j + i]? = X[i]?) →
    EsEnv W bn bf br bs be gs n cr g lb Ar R → intBlk W gs s → envE bn bf br bs be gs ok → St j W ok →
    Kd.F (Kd.slice 3 (Kd.int .i64)) W (roE W ok gs) Ar R.length R → Kd.F (Kd.slice 3 (Kd.int .i64)) W (roE W ok gs) A rows.length rows → rows.length ≤ c →
    Calls Try.prog 122 #[.slice A rows.length c, .pointer (some ⟨bn, 0, none⟩), .pointer (some ⟨bf, 0, none⟩), .pointer (some ⟨br, 0, none⟩), .pointer (some ⟨bs, 0, none⟩), .pointer (some ⟨be, 0, none⟩)] W (EsPost St (j + X.length) W ok gs s) := by
  have egE : ∀ args w, (callFunc 122 args).run Try.prog w = .ok (.enter 122 args) w := enters_of Try.func122 (by kernel_rfl) rfl
  intro k
  induction k using Nat.strongRecOn with
  | _ k ih =>
  intro rows s X j A c W ok hX hlen hsl hAll henv hs hok hst hFR hF hc
  cases k with
  | zero => simp [esE] at hX
  | succ k =>
  rw [esE] at hX
  have hnum : W.cell? ⟨bn, 0, none⟩ = some (.int .i64 n) := blk_cell henv.num 0
  have hfn : W.cell? ⟨bf, 0, none⟩ = some (.func (.func g) #[] lb) := blk_cell henv.fn 0
  have hrw : W.cell? ⟨br, 0, none⟩ = some (.slice Ar R.length cr) := blk_cell henv.rows 0
  have hrl : rows.length ≤ 100000 := by omega
  have HENV := Aside0.mk henv
  have HS := Aside0.mk hs
  have HOK := Aside0.mk hok
  have HST := Aside0.mk hst
  have HFR := Aside0.mk hFR
  have HF := Aside0.mk hF
  have HC := Aside0.mk hc
  clear henv hs hok hst hFR hF hc
  by_cases hrn : rows.length = n
  · rw [if_pos hrn] at hX
    obtain rfl := Option.some.inj hX
    have hnd : ((rows.length : Int) == (n : Int)) = true := by simp [hrn]
    have HC1 := Aside0.mk (hf j rows A c W ok (by have := hAll 0 (by simp); simpa using this) HST.out (Kd.F_mono HF.out (fun k hk => ⟨hk.1.1, hk.2⟩)) HC.out)
    clear hX ih hAll hrn hf
    go_enter Try.func122, Try.ntmps122
    go_wp2_with (go_at_fn g; refine HC1.out.mono ?_; rintro e w1 ⟨rfl, ok1, hs1, ht1, ho1⟩; have HS1 := Aside0.mk hs1; have HT1 := Aside0.mk ht1; have HO1 := Aside0.mk ho1; clear hs1 ht1 ho1)
    go_ret
    exact ⟨rfl, ok1, HS1.out, HT1.out.blk HS.out HOK.out.1.2.2.2.2.2, HT1.out.mono (fun k hk => .inl hk), HO1.out⟩
  · rw [if_neg hrn] at hX
    have hnd : ((rows.length : Int) == (n : Int)) = false := by simp; omega
    have HM := Aside0.mk hX
    have IH := Aside0.mk ih
    have HAL := Aside0.mk hAll
    obtain ⟨J, hJ⟩ : ∃ J, J = j + X.length := ⟨_, rfl⟩
    rw [← hJ]
    have HJ := Aside0.mk hJ.symm
    have hbsz : bn < W.heap.size ∧ bf < W.heap.size ∧ br < W.heap.size ∧ bs < W.heap.size ∧ be < W.heap.size ∧ gs < W.heap.size := ⟨blk_lt HENV.out.num, blk_lt HENV.out.fn, blk_lt HENV.out.rows, blk_lt HENV.out.sums, blk_lt HENV.out.each, blk_lt HS.out⟩
    have HLEN := Aside0.mk hlen
    clear hX ih hAll hJ hrn hf hlen
    go_enter Try.func122, Try.ntmps122
    go_wp2
    go_loopg [24] k (fun kq s24 wr => ∃ (i j1 : Nat) (Y : List (List (List Int))) (ok1 : Nat → Prop), i ≤ R.length ∧ s24 = .int .i64 i ∧ Aside0 (esL kq n R rows s (R.drop i) = some Y) ∧ Aside0 (kq ≤ k) ∧ Aside0 (j1 + Y.length = J) ∧ Aside0 (∀ i, i < Y.length → All[j1 + i]? = Y[i]?) ∧ Aside0 (St j1 wr ok1) ∧ Aside0 (intBlk wr gs s) ∧ Aside0 (Touch W wr (fun k => ok k ∨ k = gs)) ∧ Aside0 (∀ k, ok1 k → ok k ∨ W.heap.size ≤ k))
    case atStart => exact ⟨0, j, X, ok, Nat.zero_le _, rfl, HM, ⟨Nat.le_refl _⟩, HJ, HAL, HST, HS, ⟨Touch.refl _ _⟩, ⟨fun k h => .inl h⟩⟩
    case round =>
      clear HM HJ HAL HST HS
      obtain ⟨i, j1, Y, ok1, hi, rfl, HM, HK, HJ, HAL, HST, HS, HT, HO⟩ := hrel
      cases gk with
      | zero => exact absurd HM.out (by simp [esL])
      | succ k3 =>
      have H := HM.out
      by_cases hlt : i < R.length
      · have hz : (i : Int) < (R.length : Int) := by omega
        obtain ⟨r, hr⟩ : ∃ r, r = R[i] := ⟨_, rfl⟩
        rw [List.drop_eq_getElem_cons hlt, ← hr, esL] at H
        obtain ⟨b, hb, H⟩ := Option.bind_eq_some_iff.1 H
        have hFRr := HT.out.F HFR.out (fun k hk h => h.elim hk.1.1 hk.1.2)
        obtain ⟨ad, cc, hA, hcl1, hFK, hcell, _⟩ := Kd.F_get hFRr ([] : List Int) (i : Int) (by omega) (by omega)
        subst hA
        obtain ⟨A1, c1, rfl, hc1, hFx⟩ := Kd.FK_slice_open hFK
        have hx := hcell 0 _ rfl
        rw [Int.toNat_natCast, show (Kd.slice 3 (Kd.int .i64)).sz = 1 from rfl, Nat.mul_one, Nat.add_zero] at hx
        have hge : R.getD i [] = r := by rw [hr, List.getD_eq_getElem?_getD, List.getElem?_eq_getElem hlt]; rfl
        rw [Int.toNat_natCast, hge] at hc1 hFx
        rw [hge] at hx
        have HXF := Aside0.mk hFx
        have HC1 := Aside0.mk hc1
        have henv2 := HENV.out.touch HT.out ⟨fun h => h.elim HOK.out.1.1 HOK.out.2.1, fun h => h.elim HOK.out.1.2.1 HOK.out.2.2.1, fun h => h.elim HOK.out.1.2.2.1 HOK.out.2.2.2.1, fun h => h.elim HOK.out.1.2.2.2.1 HOK.out.2.2.2.2.1, fun h => h.elim HOK.out.1.2.2.2.2.1 HOK.out.2.2.2.2.2⟩
        have HENV2 := Aside0.mk henv2
        have hsums : wr.cell? ⟨bs, 0, none⟩ = some (.slice (some ⟨gs, 0, none⟩) n n) := blk_cell henv2.sums 0
        have hnum2 : wr.cell? ⟨bn, 0, none⟩ = some (.int .i64 n) := blk_cell henv2.num 0
        obtain ⟨last, hla⟩ : ∃ last, last = decide (rows.length + 1 = n) := ⟨_, rfl⟩
        have hlast : ((rows.length : Int) == (n : Int) - 1) = last := by
          rw [hla]
          by_cases h : rows.length + 1 = n
          · rw [decide_eq_true h]; simp; omega
          · rw [decide_eq_false h]; simp; omega
        rw [← hla] at hb
        have hcs : Kd.C (Kd.int .i64) wr (some ⟨gs, 0, none⟩) s.length s := (Kd.R_reads' (intBlk_R (base := 0) (ok := fun _ => True) HS.out (Nat.zero_le _) trivial (by omega))).2.2
        have hft := impl_fitsSums.calls 300 (some ⟨gs, 0, none⟩) n s A1 c1 r last b wr hcs (by omega) (Kd.F_now hFx) hc1 hb
        rw [hsl] at hft
        have HFT := Aside0.mk hft
        clear HM hFRr hFK hcell hcl1 hc1 hFx hge hr henv2 hla hb hcs hft
        cases b with
        | false =>
          rw [if_neg (by simp)] at H
          have HM := Aside0.mk H
          clear H
          go_wp2_with (go_at_call 123; refine HFT.out.mono ?_; rintro e w2 ⟨rfl, hd⟩; have HBf := Aside0.mk hd.below; clear hd)
          go_roundg k3
          case measure => have := HK.out; omega
          case rel => exact ⟨i + 1, j1, Y, ok1, by omega, by go_num, HM, ⟨by have := HK.out; omega⟩, HJ, HAL, ⟨hSt.below HST.out HBf.out⟩, ⟨blk_below HS.out HBf.out⟩, ⟨HT.out.then_below HBf.out⟩, HO⟩
        | true =>
          rw [if_pos rfl] at H
          split at H
          case isFalse => cases H
          rename_i hrs
          obtain ⟨a, ha, H⟩ := Option.bind_eq_some_iff.1 H
          obtain ⟨b2, hb2, H⟩ := Option.bind_eq_some_iff.1 H
          obtain rfl := Option.some.inj H
          have HA := Aside0.mk ha
          have HB2 := Aside0.mk hb2
          have hrs1 := hrs.1
          have HSB := Aside0.mk hrs.2
          clear H ha hb2 hrs
          go_wp2_with (go_at_call 123; refine HFT.out.mono ?_; rintro e w2 ⟨rfl, hd⟩; have HBf := Aside0.mk hd.below; clear hd)
          clear hx hsums hnum2
          obtain ⟨wo, rfl⟩ : ∃ wo : World, wo = wr := ⟨_, rfl⟩
          go_loopg [39] r.length (fun gj s39 wr2 => ∃ jj : Nat, jj ≤ r.length ∧ r.length - jj ≤ gj ∧ s39 = .int .i64 jj ∧ Aside0 (intBlk wr2 gs (addR s r jj)) ∧ Aside0 (Touch wo wr2 (fun k => k = gs)))
          case atStart => exact ⟨0, Nat.zero_le _, Nat.le_refl _, rfl, ⟨blk_below HS.out HBf.out⟩, ⟨Touch.of_below HBf.out _⟩⟩
          case round =>
            clear HBf HFT
            obtain ⟨jj, hjj, hgj, rfl, HI, HT2⟩ := hrel
            have hsums : wr.cell? ⟨bs, 0, none⟩ = some (.slice (some ⟨gs, 0, none⟩) n n) := blk_cell (HT2.out.blk HENV2.out.sums HOK.out.2.2.2.2.1) 0
            by_cases hjt : jj < r.length
            · have hjz : (jj : Int) < (r.length : Int) := by omega
              have hjn : (jj : Int) < (n : Int) := by omega
              obtain ⟨adr, e1, hy⟩ := Kd.at_int (Kd.F_now (HT2.out.F HXF.out (fun k hk e => hk.1.2 e))) (jj : Int) (by omega) hjz
              subst e1
              simp only [Int.toNat_natCast] at hy
              obtain ⟨cs, hcs⟩ : ∃ cs, cs = addR s r jj := ⟨_, rfl⟩
              have hcl : cs.length = n := by rw [hcs, addR_length, hsl]
              have hsc := addR_succ s r jj
              rw [← hcs] at HI hsc
              have hcell := (blk_cell HI.out jj).trans (show ((cs.map (Value.int .i64)).toArray[jj]?) = some (.int .i64 (rd cs jj)) by simp [rd, List.getD_eq_getElem?_getD, show jj < cs.length by omega])
              have hfz := blk_frozen HI.out jj
              have HP := Aside0.mk (show intBlk (wr.setCell ⟨gs, jj, none⟩ (.int .i64 (wrap64 (rd cs jj + rd r jj)))) gs (addR s r (jj + 1)) from blk_put HI.out jj _ (by simp [hsc]))
              have HT3 := Aside0.mk (HT2.out.set ⟨gs, jj, none⟩ (.inl rfl) (.int .i64 (wrap64 (rd cs jj + rd r jj))))
              clear hcs hsc hcl
              go_wp2
              go_roundg (r.length - (jj + 1))
              case measure => omega
              case rel => exact ⟨jj + 1, by omega, by omega, by go_num, HP, HT3⟩
            · have hjz : ¬ (jj : Int) < (r.length : Int) := by omega
              have hje : jj = r.length := by omega
              subst hje
              have HFw := Aside0.mk (HT2.out.F (HT.out.F HF.out (fun k hk h => h.elim hk.1.1 hk.1.2)) (fun k hk e => hk.1.2 e))
              have HRw := Aside0.mk (HT2.out.F (HT.out.F HFR.out (fun k hk h => h.elim hk.1.1 hk.1.2)) (fun k hk e => hk.1.2 e))
              have HXw := Aside0.mk (HT2.out.F HXF.out (fun k hk e => hk.1.2 e))
              have henv3 := HENV2.out.touch HT2.out ⟨HOK.out.2.1, HOK.out.2.2.1, HOK.out.2.2.2.1, HOK.out.2.2.2.2.1, HOK.out.2.2.2.2.2⟩
              have HENV3 := Aside0.mk henv3
              have hok1 : ∀ q, q < W.heap.size → ¬ ok q → ¬ ok1 q := fun q hq hn h => (HO.out q h).elim hn (fun h => by omega)
              have HOK1 := Aside0.mk (show envE bn bf br bs be gs ok1 from ⟨⟨hok1 _ hbsz.1 HOK.out.1.1, hok1 _ hbsz.2.1 HOK.out.1.2.1, hok1 _ hbsz.2.2.1 HOK.out.1.2.2.1, hok1 _ hbsz.2.2.2.1 HOK.out.1.2.2.2.1, hok1 _ hbsz.2.2.2.2.1 HOK.out.1.2.2.2.2.1, hok1 _ hbsz.2.2.2.2.2 HOK.out.1.2.2.2.2.2⟩, HOK.out.2⟩)
              have HST3 := Aside0.mk (hSt.touch HST.out HT2.out (fun q hq e => HOK1.out.1.2.2.2.2.2 (e ▸ hq)))
              have hwsz : W.heap.size ≤ wr.heap.size := Nat.le_trans HT.out.size HT2.out.size
              have HRO := Aside0.mk (show ∀ Wc : World, Below wr.heap.size wr Wc → ∀ q, (roE W ok gs q ∨ wr.heap.size ≤ q) ∧ q < Wc.heap.size → roE Wc ok1 gs q from fun Wc hbc q hq => ⟨hq.1.elim (fun h => ⟨hok1 q h.2 h.1.1, h.1.2⟩) (fun h => ⟨fun h1 => by have := hSt.lt HST3.out q h1; omega, by omega⟩), hq.2⟩)
              have hk1 : wr.cell? ⟨be, 0, none⟩ = some (.func (.func 122) #[] #[.pointer (some ⟨bn, 0, none⟩), .pointer (some ⟨bf, 0, none⟩), .pointer (some ⟨br, 0, none⟩), .pointer (some ⟨bs, 0, none⟩), .pointer (some ⟨be, 0, none⟩)]) := blk_cell henv3.each 0
              obtain ⟨us, hul, _, _, hus⟩ := C_cells (Kd.F_now HFw.out)
              have HUS := Aside0.mk hus
              have HN0 := Aside0.mk (show A = none → rows.length = 0 ∧ rows.length = 0 from fun h => by
                subst h
                rcases Nat.eq_zero_or_pos rows.length with h | h
                · exact ⟨h, h⟩
                · obtain ⟨ad, e, _⟩ := (Kd.F_now HFw.out).2.2 h; cases e)
              obtain ⟨i0, hi0, hz0, hz1, hz2⟩ := info_parts info_rowsU
              have hrc : rows.length ≤ c := HC.out
              have hrc2 : (0 : Int) ≤ (rows.length : Int) := by omega
              have hrc3 : (rows.length : Int) ≤ (c : Int) := by omega
              have HBC := Aside0.mk (Below.refl wr.heap.size wr)
              obtain ⟨s9, hs9⟩ : ∃ z, z = addR s r r.length := ⟨_, rfl⟩
              have HSL := Aside0.mk (show s9.length = n by rw [hs9, addR_length, hsl])
              rw [← hs9] at HI HSB HA
              have HALa := Aside0.mk (show ∀ q, q < a.length → All[j1 + q]? = a[q]? from fun q hq => by have := HAL.out q (by rw [List.length_append]; omega); rwa [List.getElem?_append_left hq] at this)
              clear henv3 hus hs9
              go_wp2
              go_region_held3 (fun W1 => W1.cell? ⟨be, 0, none⟩ = some (.func (.func 122) #[] #[.pointer (some ⟨bn, 0, none⟩), .pointer (some ⟨bf, 0, none⟩), .pointer (some ⟨br, 0, none⟩), .pointer (some ⟨bs, 0, none⟩), .pointer (some ⟨be, 0, none⟩)]) ∧ W1.cell? ⟨bs, 0, none⟩ = some (.slice (some ⟨gs, 0, none⟩) n n)) (first | (exact ⟨hk1, hsums⟩) | (exact ⟨hq1, hq2⟩) | (have hh_ := ‹_ ∧ _›; exact ⟨pw_cell_below (below_alloc (Below.refl _ _) _) hh_.1, pw_cell_below (below_alloc (Below.refl _ _) _) hh_.2⟩)) (first
                | (refine step_append_grows (by rfl) (.tmp 58) (.tmp 60) 36 (by rfl) 22 i0 (.slice none 0 0) 1 24 Try.underlying36 hi0 hz0 hz1 hz2 rfl (by omega) A rows.length rows.length us (by rfl) HN0.out (by rw [Nat.mul_one]; exact hul) (fun b_ e_ j u hu => pw_cell_below (by repeat (first | exact HBC.out | refine below_alloc ?_ _ | refine below_drew ?_)) (HUS.out b_ e_ j u hu)) ⟨_, 0, none⟩ 1 1 [.slice A1 r.length c1] (by rfl) (by rfl) ?hn (by simp [Value.oneCell']) (by omega) (by unfold maxLen; omega) (by omega) ?_; (case hn => (intro j u hu; cases j with | zero => (simp only [List.getElem?_cons_zero, Option.some.injEq] at hu; subst hu; exact blk_cell (blk_new _ _) 0) | succ j => simp at hu)); intro v9 w9 how9 hg9; have h9 := fun hb => app1_F HFw.out hul HUS.out HXw.out HC1.out hb how9 hg9; obtain ⟨A9, c9, rfl, hc9, hF9, hb9⟩ := h9 (by repeat (first | exact HBC.out | refine below_alloc ?_ _ | refine below_drew ?_)); have HF9 := Aside0.mk hF9; have HC9 := Aside0.mk hc9; have n_ := fun h => Aside0.mk (Below.trans (B := wr.heap.size) h (hb9.mono (Below.size h))); have m_ := n_ (by repeat (first | exact HBC.out | refine below_alloc ?_ _ | refine below_drew ?_)); clear n_ HBC; have HBC := m_; clear m_; (try clear hq1 hq2); have hq1 := pw_cell_below HBC.out hk1; have hq2 := pw_cell_below HBC.out hsums; clear h9 how9 hg9 hF9 hc9 hb9)
                | (go_at_fn 122
                   have hlq : (rows ++ [r]).length = rows.length + 1 := by simp
                   rw [← hlq]
                   refine (IH.out k3 (by have := HK.out; omega) (rows ++ [r]) s9 a j1 A9 c9 _ ok1 HA.out (by have := HK.out; have := HLEN.out; omega) HSL.out HALa.out (HENV3.out.touch (Touch.of_below HBC.out (fun _ => False)) ⟨id, id, id, id, id⟩) (blk_below HI.out HBC.out) HOK1.out (hSt.below HST3.out HBC.out) (Kd.F_mono (Kd.F_bound (Kd.F_below HRw.out HBC.out)) (fun q hq => HRO.out _ HBC.out q ⟨.inl hq.1, hq.2⟩)) (Kd.F_mono (Kd.F_bound (by rw [hlq]; rw [hlq] at HF9; exact HF9.out)) (HRO.out _ HBC.out)) (by have := HC9.out; omega)).mono ?_
                   rintro e w4 ⟨rfl, ok2, hst2, hI2, ht2, ho2⟩
                   clear hq1 hq2
                   have henv4 := HENV3.out.touch ((Touch.of_below HBC.out (fun q => ok1 q ∨ q = gs)).trans ht2 (fun q h => .inl h)) ⟨fun h => h.elim HOK1.out.1.1 HOK.out.2.1, fun h => h.elim HOK1.out.1.2.1 HOK.out.2.2.1, fun h => h.elim HOK1.out.1.2.2.1 HOK.out.2.2.2.1, fun h => h.elim HOK1.out.1.2.2.2.1 HOK.out.2.2.2.2.1, fun h => h.elim HOK1.out.1.2.2.2.2.1 HOK.out.2.2.2.2.2⟩
                   have hq1 := blk_cell henv4.each 0
                   have hq2 := blk_cell henv4.sums 0
                   have HE4 := Aside0.mk henv4
                   have HST4 := Aside0.mk hst2
                   have HI4 := Aside0.mk hI2
                   have HT4 := Aside0.mk ht2
                   have HO4 := Aside0.mk ho2
                   clear henv4 hst2 hI2 ht2 ho2 hlq))
              have HX4 := Aside0.mk (HT4.out.F (Kd.F_below HXw.out HBC.out) (fun q hq h => h.elim (hok1 q hq.2 hq.1.1) hq.1.2))
              have hgs2 : ∀ q, ok2 q → q ≠ gs := fun q hq e => (HO4.out q hq).elim (fun h => HOK1.out.1.2.2.2.2.2 (e ▸ h)) (fun h => by have := HBC.out.size; omega)
              have HTW := Aside0.mk (((HT.out.trans HT2.out (fun q h => .inl (.inr h))).then_below HBC.out).trans HT4.out (fun q h => h.elim (fun h1 => (HO.out q h1).imp .inl id) (fun h1 => .inl (.inr h1))))
              have HOW := Aside0.mk (show ∀ q, ok2 q → ok q ∨ W.heap.size ≤ q from fun q hq => (HO4.out q hq).elim (fun h => HO.out q h) (fun h => .inr (by have := HBC.out.size; omega)))
              have HALb := Aside0.mk (show ∀ q, q < b2.length → All[j1 + a.length + q]? = b2[q]? from fun q hq => by have := HAL.out (a.length + q) (by rw [List.length_append]; omega); rwa [← Nat.add_assoc, List.getElem?_append_right (by omega), Nat.add_sub_cancel_left] at this)
              have HJb := Aside0.mk (show j1 + a.length + b2.length = J by have := HJ.out; rw [List.length_append] at this; omega)
              clear hq1 hq2 hsums hk1
              go_wp2
              go_loopg [65] r.length (fun gj s65 wr2 => ∃ jj : Nat, jj ≤ r.length ∧ r.length - jj ≤ gj ∧ s65 = .int .i64 jj ∧ Aside0 (intBlk wr2 gs (subR s9 r jj)) ∧ Aside0 (Touch w4 wr2 (fun k => k = gs)))
              case atStart => exact ⟨0, Nat.zero_le _, Nat.le_refl _, rfl, HI4, ⟨Touch.refl _ _⟩⟩
              case round =>
                clear HI4
                obtain ⟨jj, hjj, hgj, rfl, HI5, HT5⟩ := hrel
                have hsums : wr.cell? ⟨bs, 0, none⟩ = some (.slice (some ⟨gs, 0, none⟩) n n) := blk_cell (HT5.out.blk HE4.out.sums HOK.out.2.2.2.2.1) 0
                by_cases hjt : jj < r.length
                · have hjz : (jj : Int) < (r.length : Int) := by omega
                  have hjn : (jj : Int) < (n : Int) := by omega
                  obtain ⟨adr, e1, hy⟩ := Kd.at_int (Kd.F_now (HT5.out.F HX4.out (fun k hk e => hk.1.2 e))) (jj : Int) (by omega) hjz
                  subst e1
                  simp only [Int.toNat_natCast] at hy
                  obtain ⟨cs, hcs⟩ : ∃ cs, cs = subR s9 r jj := ⟨_, rfl⟩
                  have hcl : cs.length = n := by rw [hcs, subR_length, HSL.out]
                  have hsc := subR_succ s9 r jj
                  rw [← hcs] at HI5 hsc
                  have hcell := (blk_cell HI5.out jj).trans (show ((cs.map (Value.int .i64)).toArray[jj]?) = some (.int .i64 (rd cs jj)) by simp [rd, List.getD_eq_getElem?_getD, show jj < cs.length by omega])
                  have hfz := blk_frozen HI5.out jj
                  have HP := Aside0.mk (show intBlk (wr.setCell ⟨gs, jj, none⟩ (.int .i64 (wrap64 (rd cs jj - rd r jj)))) gs (subR s9 r (jj + 1)) from blk_put HI5.out jj _ (by simp [hsc]))
                  have HT6 := Aside0.mk (HT5.out.set ⟨gs, jj, none⟩ (.inl rfl) (.int .i64 (wrap64 (rd cs jj - rd r jj))))
                  clear hcs hsc hcl
                  go_wp2
                  go_roundg (r.length - (jj + 1))
                  case measure => omega
                  case rel => exact ⟨jj + 1, by omega, by omega, by go_num, HP, HT6⟩
                · have hjz : ¬ (jj : Int) < (r.length : Int) := by omega
                  have hje : jj = r.length := by omega
                  subst hje
                  rw [HSB.out] at HI5
                  go_wp2
                  go_roundg k3
                  case measure => have := HK.out; omega
                  case rel => exact ⟨i + 1, j1 + a.length, b2, ok2, by omega, by go_num, HB2, ⟨by have := HK.out; omega⟩, HJb, HALb, ⟨hSt.touch HST4.out HT5.out (fun q hq e => hgs2 q hq e)⟩, HI5, ⟨HTW.out.trans HT5.out (fun q h => .inl (.inr h))⟩, HOW⟩
      · have hz : ¬ (i : Int) < (R.length : Int) := by omega
        have hie : i = R.length := by omega
        subst hie
        rw [List.drop_length, esL] at H
        obtain rfl := Option.some.inj H
        have HJ3 := Aside0.mk (show j1 = J from HJ.out)
        clear H HM
        go_wp2
        go_ret
        exact ⟨rfl, ok1, by rw [← HJ3.out]; exact HST.out, HS.out, HT.out, HO.out⟩
end Go.Proofs.Ytdcdkckpmkfjdaa

namespace Go.Proofs.Ytdcdkckpmkfjdaa.P
open Go.RowKit Go.Proofs.YtdcdkckpmkfjdaaW.PrintWords Go.Proofs.YtdcdkckpmkfjdaaW.PrintLast Go.Proofs.YtdcdkckpmkfjdaaW.PrintMore
attribute [local go_sem] max2_int min2_int max_two min_two max_three min_three max_four min_four   -- for this text's walks alone
set_option linter.unusedVariables false
set_option linter.unusedSimpArgs false

def spec_weAdd.l0 : Nat → Int → List Int → Option (List Int)
 | 0, _, _ => none
 | k + 1, x1, x5 => if (x5.length : Int) ≤ x1 then (if x5.length < 17592186044416 then (spec_weAdd.l0 k x1 (x5 ++ [0])) else (none)) else (if 0 ≤ x1 then (if x1 < (x5.length : Int) then (some (x5.set (x1 : Int).toNat (wrap64 ((rd x5 x1) + 1)))) else (none)) else (none))
def spec_weAdd.f (k : Nat) (l0 : List Int) (a1 : Int) : Option (List Int) := (spec_l1Own.f l0).bind fun t148 => (spec_weAdd.l0 k a1 t148)
theorem spec_weAdd.mono_l : ∀ k, (∀ y0 y1, LeO (spec_weAdd.l0 k y0 y1) (spec_weAdd.l0 (k + 1) y0 y1))
 | 0 => fun _ _ r h => by simp [spec_weAdd.l0] at h
 | k + 1 => by
  have ih0 := spec_weAdd.mono_l k
  ·intro y0 y1
   unfold spec_weAdd.l0
   repeat' first
   | (with_reducible exact ih0 _ _)
   | (with_reducible exact LeO.refl _)
   | (with_reducible exact LeO.none _)
   | (with_reducible refine LeO.ite ?_ ?_)
   | (with_reducible refine LeO.bind ?_ (fun _ => ?_))
   | exact ih0 _ _
   | exact LeO.none _
   | refine LeO.ite ?_ ?_
   | refine LeO.bind ?_ (fun _ => ?_)
theorem spec_weAdd.mono : ∀ a0 a1 k, LeO (spec_weAdd.f k a0 a1) (spec_weAdd.f (k + 1) a0 a1) := by
 intro a0 a1 k
 have ih0 := spec_weAdd.mono_l k
 unfold spec_weAdd.f
 repeat' first
   | (with_reducible exact ih0 _ _)
   | (with_reducible exact LeO.refl _)
   | (with_reducible exact LeO.none _)
   | (with_reducible refine LeO.ite ?_ ?_)
   | (with_reducible refine LeO.bind ?_ (fun _ => ?_))
   | exact ih0 _ _
   | exact LeO.none _
   | refine LeO.ite ?_ ?_
   | refine LeO.bind ?_ (fun _ => ?_)
set_option maxHeartbeats 8000000 in
set_option maxRecDepth 100000 in
theorem spec_weAdd.calls (k : Nat) (A0 : Option Addr) (c0 : Nat) (l0 : List Int) (a1 : Int) (r : List Int) (w : World) (hr0 : Kd.C (Kd.int .i64) w A0 l0.length l0) (hc0 : l0.length ≤ c0) (h : spec_weAdd.f k l0 a1 = some r) :
  Calls Try.prog 59 #[.slice A0 l0.length c0, .int .i64 a1] w fun e w' => ∃ v0_ : Value, e = .returned (v0_) ∧ Kd.R (Kd.int .i64) 3 w' w.heap.size (fun _ => True) v0_ r ∧ Below w.heap.size w w' := by
 have HR0 := Aside0.mk hr0
 have HC0 := Aside0.mk hc0
 clear hr0 hc0
 have HB := Aside0.mk (Below.refl w.heap.size w)
 have H : ((spec_l1Own.f l0).bind fun t148 => (spec_weAdd.l0 k a1 t148)) = some r := h
 clear h
 replace H := Option.bind_eq_some_iff.mp H
 obtain ⟨t148, A30, H⟩ := H
 replace H : (spec_weAdd.l0 k a1 t148) = some r := H
 have A3 := Aside0.mk A30
 clear A30
 have H' := Aside0.mk H
 clear H
 go_enter Try.func59, Try.ntmps59
 go_wp2_with (first | ((with_reducible refine gate_callee (f := 110) rfl ?_); refine goesL_ (some 7) rfl rfl Try.func110 (by kernel_rfl) rfl #[.slice A0 l0.length c0] rfl (by (try simp only [List.map_toArray, List.map_cons, List.map_nil]); first | done | rfl | (simp only [List.length_drop, List.length_take]; rfl)) ?_; (with_reducible refine (spec_l1Own.calls _ _ l0 t148 _ ?side1 ?side2 A3.out).mono ?_); (case side1 => repeat (first | exact HR0.out | (with_reducible refine Kd.C_alloc ?_ _) | (with_reducible refine Kd.C_drewN ?_ _) | (with_reducible refine Kd.C_drew ?_))); (case side2 => exact HC0.out); rintro e w4 ⟨v149, rfl, ho0, hb⟩; refine ⟨_, rfl, ?_⟩; have n0_ := Aside0.mk (Kd.R_lower ho0 (below_size (by repeat (first | (with_reducible first | exact HB.out | apply below_alloc | apply pw_below_drewN | apply below_drew1) | exact HB.out)))); have n1_ := Aside0.mk (below_step (by repeat (first | (with_reducible first | exact HB.out | apply below_alloc | apply pw_below_drewN | apply below_drew1) | exact HB.out)) hb); clear HB; have HO150 := n0_; have HB := n1_; clear n0_ n1_; (try clear hb); (try clear hb2); (try clear hk); (try clear hi); (try clear ho0)))
 go_loopg [5] k (fun kq v5 w' => ∃ (x5_1 : List Int), Aside0 (spec_weAdd.l0 kq a1 x5_1 = some r) ∧ Aside0 (kq ≤ k) ∧ Aside0 (Kd.R (Kd.int .i64) 3 w' w.heap.size (fun _ => True) v5 x5_1) ∧ Aside0 (Below w.heap.size w w'))
 case atStart => exact ⟨(t148), H', ⟨Nat.le_refl _⟩, ⟨by (with_reducible repeat (first | apply Kd.R_alloc | apply Kd.R_drewN | apply Kd.R_drew)); exact HO150.out⟩, ⟨by repeat (first | (with_reducible first | exact HB.out | apply below_alloc | apply pw_below_drewN | apply below_drew1) | exact HB.out)⟩⟩
 case round =>
  clear H'
  try clear c1
  try clear p2
  obtain ⟨x5_1, HA, HK1, HO_5, HB⟩ := hrel
  cases gk with
  | zero => exact absurd HA.out (by simp [spec_weAdd.l0])
  | succ k1 =>
   have H := HA.out
   clear HA
   simp only [spec_weAdd.l0] at H
   by_cases c5 : (x5_1.length : Int) ≤ a1
   ·rw [if_pos c5] at H
    have c5b0 : decide ((x5_1.length : Int) ≤ a1) = true := decide_eq_true c5
    clear c5
    by_cases c6 : x5_1.length < 17592186044416
    ·rw [if_pos c6] at H
     have LMc6 := Aside0.mk c6
     clear c6
     obtain ⟨y151, hy151⟩ : ∃ y_ : List Int, y_ = (x5_1 ++ [0]) := ⟨_, rfl⟩
     replace H : (spec_weAdd.l0 k1 a1 y151) = some r := by first | (rw [hy151]; with_reducible exact H) | (have H2_ := (Option.bind_some _ _).symm.trans H; rw [hy151]; with_reducible exact H2_) | (have H2_ := (Option.bind_some _ _).symm.trans H; with_reducible exact H2_) | with_reducible exact H | (rw [hy151]; exact H) | exact H
     have Ny151 := Aside0.mk hy151
     clear hy151
     have H' := Aside0.mk H
     clear H
     obtain ⟨Ao7, co7, eo7⟩ := Kd.R_slice HO_5.out
     subst eo7
     go_wp2_with (first | ((with_reducible refine gate_builtin (b := .append) (xs := #[.tmp 12, .tmp 13]) rfl ?_); at_builtin; refine Kd.R_append (Kd.int .i64) (w0 := w) w.heap.size rfl (.tmp 12) (.tmp 13) 22 3 (.int .i64 0) 8 rfl Try.underlying22 info3 rfl (by decide) (by omega) (.slice Ao7 x5_1.length co7) x5_1 0 [.int .i64 0] (fun _ => True) (fun _ => False) rfl rfl ?aP (fun _ hk => hk.elim) ?aF ?aO ?aB ?aS ?aL ?_; (case aP => exact rfl); (case aB => exact (by repeat (first | (with_reducible first | exact HB.out | apply below_alloc | apply pw_below_drewN | apply below_drew1) | exact HB.out))); (case aF => exact (fun _ _ => trivial)); (case aO => exact (by (with_reducible repeat (first | apply Kd.R_alloc | apply Kd.R_drewN | apply Kd.R_drew)); exact HO_5.out)); (case aS => exact (below_size (by repeat (first | (with_reducible first | exact HB.out | apply below_alloc | apply pw_below_drewN | apply below_drew1) | exact HB.out)))); (case aL => have := LMc6.out; omega); intro v152 w8 ho hb hg hat; rw [← Ny151.out] at ho; have n0_ := Aside0.mk (hb); have n1_ := Aside0.mk (ho); clear HB; clear HO_5; have HB := n0_; have HO153 := n1_; clear n0_ n1_; clear ho hb hg hat))
     go_roundg k1
     case measure => have := HK1.out; omega
     case rel => exact ⟨(y151), H', ⟨by have := HK1.out; omega⟩, ⟨by (with_reducible repeat (first | apply Kd.R_alloc | apply Kd.R_drewN | apply Kd.R_drew)); exact HO153.out⟩, ⟨by repeat (first | (with_reducible first | exact HB.out | apply below_alloc | apply pw_below_drewN | apply below_drew1) | exact HB.out)⟩⟩
    ·rw [if_neg c6] at H
     exact absurd H (by simp)
   ·rw [if_neg c5] at H
    have c5b0 : decide ((x5_1.length : Int) ≤ a1) = false := decide_eq_false c5
    clear c5
    by_cases c9 : 0 ≤ a1
    ·rw [if_pos c9] at H
     have c9b0 : decide (0 ≤ a1) = true := decide_eq_true c9
     clear c9
     by_cases c10 : a1 < (x5_1.length : Int)
     ·rw [if_pos c10] at H
      have c10b0 : decide (a1 < (x5_1.length : Int)) = true := decide_eq_true c10
      clear c10
      obtain ⟨y155, hy155⟩ : ∃ y_ : List Int, y_ = (x5_1.set (a1 : Int).toNat (wrap64 ((rd x5_1 a1) + 1))) := ⟨_, rfl⟩
      replace H : (some y155) = some r := by first | (rw [hy155]; with_reducible exact H) | (have H2_ := (Option.bind_some _ _).symm.trans H; rw [hy155]; with_reducible exact H2_) | (have H2_ := (Option.bind_some _ _).symm.trans H; with_reducible exact H2_) | with_reducible exact H | (rw [hy155]; exact H) | exact H
      have Ny155 := Aside0.mk hy155
      clear hy155
      obtain rfl := Option.some.inj H
      obtain ⟨Ao12, co12, eo12⟩ := Kd.R_slice HO_5.out
      subst eo12
      have p154 : 0 ≤ (a1 : Int) := of_decide_eq_true (by first | (with_reducible assumption) | assumption)
      have q154 : a1 < (x5_1.length : Int) := of_decide_eq_true (by first | (with_reducible assumption) | assumption)
      obtain ⟨ad154, e154, hx154_0⟩ := Kd.at_int (Kd.R_reads' HO_5.out).2.2 a1 p154 q154
      cases e154
      replace p154 := eq_true p154
      replace q154 := eq_true q154
      have p11 : 0 ≤ (a1 : Int) := of_decide_eq_true (by first | (with_reducible assumption) | assumption)
      have q11 : (a1 : Int) < ((x5_1.length : Int) : Int) := of_decide_eq_true (by first | (with_reducible assumption) | assumption)
      obtain ⟨go11, co11, eo11, gb11, gl11, cl11, HG11⟩ := Kd.R_form HO_5.out (by omega)
      (first | cases eo11 | (injection eo11 with ea_ en_ ec_; (first | subst ea_ | (injection ea_ with ea_; subst ea_)); subst ec_; clear en_))
      have GB11 := Aside0.mk gb11
      have GG11 := Aside0.mk HG11
      clear gb11 gl11 HG11
      (first | simp only [add_plain] at hx154_0 | skip)
      obtain ⟨hx11_0, hf11_0⟩ := Kd.R_celln 0 HO_5.out (a1 : Int) p11 q11
      replace p11 := eq_true p11
      replace q11 := eq_true q11
      have HP13 := Kd.R_putg HO_5.out (a1 : Int) (wrap64 ((rd x5_1 a1) + 1))
      go_wp2_with (first | ((with_reducible refine gate_store (t := 3) (p := 20) rfl ?_); refine store_event (t := 3) (p := 20) (v := ?vo_w14) (w1 := (wr.setCell ⟨go11, (a1 : Int).toNat, none⟩ (.int .i64 (wrap64 ((rd x5_1 a1) + 1))))) ?hg ?ho ?hn ?hr ?_; (case ho => rfl); (case hg => rfl); (case hn => rfl); (case hr => first | (go_simp; done) | (go_simp; rfl)); intro w14 hw; have hg : wr.grownBy w14 (some go11) := (by rw [hw]; exact HP13.2); have hp_ : Kd.R (Kd.int .i64) 3 w14 w.heap.size (fun _ => True) (.slice (some ⟨go11, 0, none⟩) x5_1.length co12) y155 := (by rw [hw, Ny155.out]; exact HP13.1); clear HP13; have n0_ := Aside0.mk (hp_); have n1_ := Aside0.mk ((by rw [hw]; exact below_set (HB.out) GB11.out : Below w.heap.size w w14)); clear HO_5; clear HB; have HO_5 := n0_; have HB := n1_; clear n0_ n1_; clear hg hw hp_))
      go_ret
      exact ⟨_, by first | rfl | (simp [errW_none, errW_some] <;> rfl) | (simp [*, errW_none, errW_some] <;> rfl), by (with_reducible repeat (first | apply Kd.R_alloc | apply Kd.R_drewN | apply Kd.R_drew)); exact HO_5.out, by repeat (first | (with_reducible first | exact HB.out | apply below_alloc | apply pw_below_drewN | apply below_drew1) | exact HB.out)⟩
     ·rw [if_neg c10] at H
      exact absurd H (by simp)
    ·rw [if_neg c9] at H
     exact absurd H (by simp)

end Go.Proofs.Ytdcdkckpmkfjdaa.P

namespace Go.Proofs.Ytdcdkckpmkfjdaa
open Go.RowKit Go.Proofs.Ytdcdkckpmkfjdaa.P Go.Proofs.Ytdcdkckpmkfjdaa.L Go.Proofs.YtdcdkckpmkfjdaaW.PrintWords Go.Proofs.YtdcdkckpmkfjdaaW.PrintLast Go.Proofs.YtdcdkckpmkfjdaaW.PrintMore
set_option linter.unusedVariables false
set_option linter.unusedSimpArgs false

/-- What is left behind a call with a function value: the value has been called m times. -/
def EsRet (St : Nat → World → (Nat → Prop) → Prop) (m : Nat) (w : World) (ok : Nat → Prop) (e : Ending) (w' : World) : Prop :=
 e = .returned (.tuple #[]) ∧ ∃ ok', St m w' ok' ∧ Touch w w' ok ∧ ∀ k, ok' k → ok k ∨ w.heap.size ≤ k
/-- eachSigns calls a function value on each of the tables All. -/
def EachSigns (n : Nat) (All : List (List (List Int))) : Prop :=
 ∀ (g : Nat) (lb : Array Value) (w : World) (St : Nat → World → (Nat → Prop) → Prop) (_ : Stays St)
  (_ : ∀ args w, (callFunc g args).run Try.prog w = .ok (.enter g args) w)
  (_ : ∀ (j : Nat) (T : List (List Int)) (A : Option Addr) (c : Nat) (W : World) (ok : Nat → Prop), All[j]? = some T → St j W ok → Kd.F (Kd.slice 3 (Kd.int .i64)) W (fun k => ¬ ok k ∧ k < W.heap.size) A T.length T → T.length ≤ c → Calls Try.prog g (#[.slice A T.length c] ++ lb) W (Stepped St (j + 1) W ok))
  (ok : Nat → Prop) (_ : St 0 w ok), Calls Try.prog 82 #[.int .i64 n, .func (.func g) #[] lb] w (EsRet St All.length w ok)
/-- The state of tally: the variable bo holds the counts. -/
def TySt (W0 : World) (B bo : Nat) (cs : Nat → List Int) (j : Nat) (W : World) (ok : Nat → Prop) : Prop :=
 ∃ v, (ok = fun k => k < W0.heap.size ∨ some k = v.ownBlock) ∧ W0.heap.size ≤ W.heap.size ∧ (∀ k, k < B → W.heap[k]? = W0.heap[k]?) ∧ W.heap[bo]? = some (.cells #[v] 22 (0, 0)) ∧ Kd.R (Kd.int .i64) 3 W B (fun k => k ≠ bo) v (cs j)
theorem heap_grew {W W' : World} {m : Nat} (h : m ≤ W.heap.size) (he : ∀ k, k < m → W'.heap[k]? = W.heap[k]?) : m ≤ W'.heap.size := by
 rcases Nat.eq_zero_or_pos m with h0 | h0
 ·omega
 ·have h1 := he (m - 1) (by omega)
  rw [Array.getElem?_eq_getElem (show m - 1 < W.heap.size by omega)] at h1
  have := (Array.getElem?_eq_some_iff.1 h1).1
  omega
theorem TySt.stays (W0 : World) (B bo : Nat) (cs : Nat → List Int) (hB : B ≤ bo) (hbo : bo < W0.heap.size) : Stays (TySt W0 B bo cs) := by
 refine ⟨?_, ?_⟩
 ·rintro j W ok ⟨v, rfl, hs, _, _, hR⟩ k hk
  rcases hk with h | h
  ·omega
  ·exact Kd.R_lt hR k h.symm
 ·rintro j W W' ok ⟨v, rfl, hs, hB2, hc, hR⟩ hm
  have hg := heap_grew hs (fun k hk => hm k (.inl hk))
  refine ⟨v, rfl, hg, fun k hk => (hm k (.inl (by omega))).trans (hB2 k hk), (hm bo (.inl hbo)).trans hc, ?_⟩
  exact Kd.R_mono (Kd.R_step (Kd.R_tight2 rfl hR) (fun k hk _ => hm k (.inr hk.1))) (fun k hk => hk.2)
theorem farUr {W : World} {g : Nat} {o : Obj} {p : Addr} {u : Value} (h : W.heap[g]? = some o) (hn : g ≠ p.block) : (W.setCell p u).heap[g]? = some o := (Below.heap_setCell W p u g hn).trans h
/-- The counts have been changed (a number appended or written). -/
theorem ty_app {W w4 : World} {B bo : Nat} {v v4 : Value} {x y : List Int} (hcell : W.heap[bo]? = some (.cells #[v] 22 (0, 0))) (hR : Kd.R (Kd.int .i64) 3 W B (fun k => k ≠ bo) v x)
  (hg : W.grownBy w4 v.ownBlock) (ho : Kd.R (Kd.int .i64) 3 w4 B (fun k => k ≠ bo) v4 y) (hat : v4.ownBlock = v.ownBlock ∨ ∃ b, v4.ownBlock = some b ∧ W.heap.size ≤ b) :
  w4.cell? ⟨bo, 0, none⟩ = some v ∧ w4.frozen? ⟨bo, 0, none⟩ = false ∧ (w4.setCell ⟨bo, 0, none⟩ v4).heap[bo]? = some (.cells #[v4] 22 (0, 0)) ∧ Kd.R (Kd.int .i64) 3 (w4.setCell ⟨bo, 0, none⟩ v4) B (fun k => k ≠ bo) v4 y ∧ Touch W (w4.setCell ⟨bo, 0, none⟩ v4) (tD bo v) ∧ (∀ k, some k = v4.ownBlock → some k = v.ownBlock ∨ W.heap.size ≤ k) := by
 have hv : ∀ k, some k = v.ownBlock → k ≠ bo := fun k e => hR.1 k e.symm
 have ht : Touch W w4 (fun k => some k = v.ownBlock) := ⟨hg.os, hg.tape, hg.output, hg.size, fun i hi hn => hg.block i hi hn⟩
 have h1 := ht.blk hcell (fun e => hv _ e rfl)
 refine ⟨blk_cell h1 0, blk_frozen h1 0, blk_put h1 0 v4 rfl, Kd.R_far ho (fun k hk => hk) v4, (ht.mono (fun k hk => .inr hk)).set ⟨bo, 0, none⟩ (.inl (.inl rfl)) v4, fun k hk => ?_⟩
 rcases hat with e | ⟨b, e, hle⟩
 ·exact .inl (hk.trans e)
 ·rw [e] at hk; injection hk with hk; exact .inr (by omega)
set_option maxHeartbeats 4000000 in
set_option maxRecDepth 100000 in
theorem tally_1.calls (W0 : World) (B bf bo gof : Nat) (lbof : Array Value) (cs : Nat → List Int) (All : List (List (List Int))) (ofv : List (List Int) → Int) (hbf : bf < B) (hB : B ≤ bo) (hbo : bo < W0.heap.size)
  (hfn : W0.heap[bf]? = some (.cells #[.func (.func gof) #[] lbof] 56 (0, 0)))
  (eg : ∀ args w, (callFunc gof args).run Try.prog w = .ok (.enter gof args) w)
  (hof : ∀ (T : List (List Int)) (A : Option Addr) (c : Nat) (W : World), T ∈ All → (∀ k, k < B → W.heap[k]? = W0.heap[k]?) → Kd.C (Kd.slice 3 (Kd.int .i64)) W A T.length T → T.length ≤ c → Calls Try.prog gof (#[.slice A T.length c] ++ lbof) W fun e w' => e = .returned (.int .i64 (ofv T)) ∧ Below W.heap.size W w')
  (hcs : ∀ (j : Nat) (T : List (List Int)), All[j]? = some T → 0 ≤ ofv T ∧ spec_weAdd.l0 1000 (ofv T) (cs j) = some (cs (j + 1)))
  (j : Nat) (T : List (List Int)) (A : Option Addr) (c : Nat) (W : World) (ok : Nat → Prop) (hT : All[j]? = some T) (hst : TySt W0 B bo cs j W ok) (hF : Kd.F (Kd.slice 3 (Kd.int .i64)) W (fun k => ¬ ok k ∧ k < W.heap.size) A T.length T) (hc : T.length ≤ c) :
  Calls Try.prog 111 (#[.slice A T.length c] ++ #[.pointer (some ⟨bf, 0, none⟩), .pointer (some ⟨bo, 0, none⟩)]) W (Stepped (TySt W0 B bo cs) (j + 1) W ok) := by
 obtain ⟨v0, rfl, hsz, hlow, hcell, hR⟩ := hst
 obtain ⟨hm0, hm1⟩ := hcs j T hT
 obtain ⟨m, hm⟩ : ∃ m, m = ofv T := ⟨_, rfl⟩
 have hcf := hof T A c W (List.mem_of_getElem? hT) hlow (Kd.F_now hF) hc
 rw [← hm] at hm0 hm1 hcf
 have hfw : W.heap[bf]? = some (.cells #[.func (.func gof) #[] lbof] 56 (0, 0)) := (hlow bf hbf).trans hfn
 have hk1 : W.cell? ⟨bf, 0, none⟩ = some (.func (.func gof) #[] lbof) := blk_cell hfw 0
 have HCF := Aside0.mk hcf
 have HM := Aside0.mk hm1
 have HCELL := Aside0.mk hcell
 have HR := Aside0.mk hR
 have HSZ := Aside0.mk hsz
 have HLOW := Aside0.mk hlow
 have HBW := Aside0.mk (show B ≤ W.heap.size by omega)
 obtain ⟨A0, c0, rfl⟩ := Kd.R_slice hR
 obtain ⟨r, hr⟩ : ∃ r, r = cs (j + 1) := ⟨_, rfl⟩
 have HRJ := Aside0.mk hr
 rw [← hr] at HM
 clear hof hcs hcf hm1 hcell hR hsz hlow hF hc hfn hT hfw hm hr
 go_enter Try.func111, Try.ntmps111
 go_wp2_with (go_at_fn gof; refine HCF.out.mono ?_; rintro e w1 ⟨rfl, hb⟩; have HB1 := Aside0.mk hb; clear hb)
 have HS := Aside0.mk (show ∀ k, tD bo (.slice A0 (cs j).length c0) k → B ≤ k from fun k hk => hk.elim (fun e => by omega) (fun e => Kd.R_base HR.out k e.symm))
 go_loopg [9] 1000 (fun kq v9 wr => ∃ (x : List Int) (v : Value), Aside0 (spec_weAdd.l0 kq m x = some r) ∧ Aside0 (wr.heap[bo]? = some (.cells #[v] 22 (0, 0))) ∧ Aside0 (Kd.R (Kd.int .i64) 3 wr B (fun k => k ≠ bo) v x) ∧ Aside0 (Touch W wr (tD bo (.slice A0 (cs j).length c0))) ∧ Aside0 (∀ k, some k = v.ownBlock → some k = (Value.slice A0 (cs j).length c0).ownBlock ∨ W.heap.size ≤ k))
 case atStart => exact ⟨cs j, _, HM, ⟨blk_below HCELL.out HB1.out⟩, ⟨Kd.R_below HR.out HB1.out⟩, ⟨Touch.of_below HB1.out _⟩, ⟨fun k h => .inl h⟩⟩
 case round =>
  clear HM HB1 HCF
  obtain ⟨x, v, HM, HCE, HRX, HT, HV⟩ := hrel
  cases gk with
  | zero => exact absurd HM.out (by simp [spec_weAdd.l0])
  | succ k3 =>
  have H := HM.out
  simp only [spec_weAdd.l0] at H
  clear HM
  obtain ⟨A1, c1, rfl⟩ := Kd.R_slice HRX.out
  have hk2 : wr.cell? ⟨bo, 0, none⟩ = some (.slice A1 x.length c1) := blk_cell HCE.out 0
  have HMB := Aside0.mk (show ∀ k, tD bo (.slice A1 x.length c1) k → tD bo (.slice A0 (cs j).length c0) k ∨ W.heap.size ≤ k from fun k hk => hk.elim (fun e => .inl (.inl e)) (fun e => (HV.out k e).elim (fun h => .inl (.inr h)) .inr))
  by_cases hle : (x.length : Int) ≤ m
  ·rw [if_pos hle] at H
   have hld : decide ((x.length : Int) ≤ m) = true := decide_eq_true hle
   split at H
   case isFalse => cases H
   rename_i hlen
   have HLEN := Aside0.mk hlen
   obtain ⟨y, hy⟩ : ∃ y, y = x ++ [0] := ⟨_, rfl⟩
   rw [← hy] at H
   have HY := Aside0.mk hy
   have HM := Aside0.mk H
   clear H hlen hy hle
   go_wp2_with (first | ((with_reducible refine gate_builtin (b := .append) (xs := #[.tmp 13, .tmp 14]) rfl ?_); at_builtin; refine Kd.R_append (Kd.int .i64) (w0 := W) B rfl (.tmp 13) (.tmp 14) 22 3 (.int .i64 0) 8 rfl Try.underlying22 info_ints rfl (by decide) (by omega) (.slice A1 x.length c1) x 0 [.int .i64 0] (fun k => k ≠ bo) (fun _ => False) rfl rfl ?aP (fun _ hk => hk.elim) ?aF ?aO ?aB ?aS ?aL ?_; (case aP => exact rfl); (case aB => exact HT.out.below HS.out HBW.out); (case aF => exact (fun k hk => by have := blk_lt HCE.out; omega)); (case aO => exact HRX.out); (case aS => exact Nat.le_trans HBW.out HT.out.size); (case aL => have := HLEN.out; omega); intro v8 w8 ho hb hg hat; rw [← HY.out] at ho; obtain ⟨A8, c8, rfl⟩ := Kd.R_slice ho; obtain ⟨hk8, hf8, he8, hs8, ht8, hv8⟩ := ty_app HCE.out HRX.out hg ho hat; have HE8 := Aside0.mk he8; have HS8 := Aside0.mk hs8; have HT8 := Aside0.mk ht8; have HV8 := Aside0.mk hv8; clear ho hb hg hat he8 hs8 ht8 hv8))
   go_roundg k3
   case measure => omega
   case rel => exact ⟨y, _, HM, HE8, HS8, ⟨HT.out.trans HT8.out HMB.out⟩, ⟨fun k hk => (HV8.out k hk).elim (fun e => HV.out k e) (fun e => .inr (by have := HT.out.size; omega))⟩⟩
  ·rw [if_neg hle] at H
   have hld : decide ((x.length : Int) ≤ m) = false := decide_eq_false hle
   rw [if_pos hm0] at H
   split at H
   case isFalse => cases H
   rename_i hmx
   obtain ⟨y, hy⟩ : ∃ y, y = x.set m.toNat (wrap64 (rd x m + 1)) := ⟨_, rfl⟩
   rw [← hy] at H
   have hyr := Option.some.inj H
   have HY := Aside0.mk hy
   have HYR := Aside0.mk hyr
   clear H hy hyr
   obtain ⟨g1, c2, e1, gb1, gl1, _, hg1⟩ := Kd.R_form HRX.out (by omega)
   cases e1
   have hcn := Kd.R_celln 0 HRX.out m hm0 hmx
   have hx := hcn.1
   have hfz := hcn.2
   have HP := Kd.R_putg HRX.out m (wrap64 (rd x m + 1))
   have HG1 := Aside0.mk HP.2
   have HPR := Aside0.mk HP.1
   clear HP hcn hg1
   have hne : bo ≠ g1 := fun e => (HRX.out.1 g1 rfl) e.symm
   have HCE2 := Aside0.mk (farUr HCE.out (p := ⟨g1, m.toNat, none⟩) (u := .int .i64 (wrap64 (rd x m + 1))) hne)
   have HT2 := Aside0.mk ((HT.out.trans (Touch.refl wr (fun k => some k = some g1)) (fun k e => (HV.out k e).imp .inr id)).set ⟨g1, m.toNat, none⟩ (by rcases HV.out g1 rfl with h | h; exact .inl (.inr h); exact .inr h) (.int .i64 (wrap64 (rd x m + 1))))
   go_wp2
   go_ret
   refine ⟨rfl, fun k => k < W0.heap.size ∨ some k = (Value.slice (some ⟨g1, 0, none⟩) x.length c1).ownBlock, ⟨_, rfl, ?_, ?_, HCE2.out, ?_⟩, HT2.out.mono (fun k hk => hk.elim (fun e => .inl (by omega)) .inr), fun k hk => hk.elim (fun h => .inl (.inl h)) (fun h => (HV.out k h).imp .inr id)⟩
   ·exact Nat.le_trans HSZ.out HT2.out.size
   ·intro k hk
    exact (HT2.out.heap (by have := HBW.out; omega) (fun h => by have := HS.out k h; omega)).trans (HLOW.out k hk)
   ·rw [← HRJ.out, ← HYR.out, HY.out]; exact HPR.out

set_option maxHeartbeats 4000000 in
set_option maxRecDepth 100000 in
theorem impl_tally.callsG (n least gof : Nat) (lbof : Array Value) (cs : Nat → List Int) (All : List (List (List Int))) (ofv : List (List Int) → Int) (hl : least ≤ 1000) (hES : EachSigns n All)
  (eg : ∀ args w, (callFunc gof args).run Try.prog w = .ok (.enter gof args) w) (w : World)
  (hof : ∀ (T : List (List Int)) (A : Option Addr) (c : Nat) (W : World), T ∈ All → (∀ k, k < w.heap.size → W.heap[k]? = w.heap[k]?) → Kd.C (Kd.slice 3 (Kd.int .i64)) W A T.length T → T.length ≤ c → Calls Try.prog gof (#[.slice A T.length c] ++ lbof) W fun e w' => e = .returned (.int .i64 (ofv T)) ∧ Below W.heap.size W w')
  (h0 : cs 0 = List.replicate least 0)
  (hcs : ∀ (j : Nat) (T : List (List Int)), All[j]? = some T → 0 ≤ ofv T ∧ spec_weAdd.l0 1000 (ofv T) (cs j) = some (cs (j + 1))) :
  Calls Try.prog 62 #[.int .i64 n, .int .i64 least, .func (.func gof) #[] lbof] w fun e w' => ∃ v0_ : Value, e = .returned (v0_) ∧ Kd.R (Kd.int .i64) 3 w' w.heap.size (fun _ => True) v0_ (cs All.length) ∧ Below w.heap.size w w' := by
 have egT : ∀ args w, (callFunc 111 args).run Try.prog w = .ok (.enter 111 args) w := enters_of Try.func111 (by kernel_rfl) rfl
 have mk1 : ∀ W : World, Sem.run Try.prog (Instr.makeSlice 22 (.int .i64 least) (.int .i64 least)) W = Result.ok (Value.slice (some ⟨W.heap.size, 0, none⟩) least least) (W.alloc (.cells (madeCells #[.int .i64 0] least) 3)) := fun W => run_make_row' (P := Try.prog) 22 3 (.int .i64 0) 8 Try.underlying22 info_ints rfl .i64 .i64 least (by omega) (by omega) W
 obtain ⟨W0, hW0⟩ : ∃ W0, W0 = ((w.alloc (.cells #[.func (.func gof) #[] lbof] 56)).alloc (.cells (madeCells #[.int .i64 0] least) 3)).alloc (.cells #[.slice (some ⟨w.heap.size + 1, 0, none⟩) least least] 22) := ⟨_, rfl⟩
 have hsz : W0.heap.size = w.heap.size + 1 + 1 + 1 := by rw [hW0]; simp
 have hb0 : Below w.heap.size w W0 := by rw [hW0]; exact below_alloc (below_alloc (below_alloc (Below.refl _ _) _) _) _
 have hf0 : W0.heap[w.heap.size]? = some (.cells #[.func (.func gof) #[] lbof] 56 (0, 0)) := by rw [hW0]; exact blk_alloc (blk_alloc (blk_new_at rfl) _) _
 have hI : intBlk W0 (w.heap.size + 1) (List.replicate least 0) := by
  unfold intBlk
  rw [← madeInts, hW0]; exact blk_alloc (blk_new_at (by simp)) _
 have hbo : W0.heap[w.heap.size + 1 + 1]? = some (.cells #[.slice (some ⟨w.heap.size + 1, 0, none⟩) least least] 22 (0, 0)) := by rw [hW0]; exact blk_new_at (by simp)
 have hR := intBlk_R (ok := fun k => k ≠ w.heap.size + 1 + 1) hI (show w.heap.size + 1 ≤ w.heap.size + 1 by omega) (by omega) (by simp; omega)
 rw [List.length_replicate] at hR
 have hcall := hES 111 #[.pointer (some ⟨w.heap.size, 0, none⟩), .pointer (some ⟨w.heap.size + 1 + 1, 0, none⟩)] W0 (TySt W0 (w.heap.size + 1) (w.heap.size + 1 + 1) cs) (TySt.stays _ _ _ _ (by omega) (by omega)) egT
  (tally_1.calls W0 (w.heap.size + 1) w.heap.size (w.heap.size + 1 + 1) gof lbof cs All ofv (by omega) (by omega) (by omega) hf0 eg (fun T A c W hT hlow hC hc => hof T A c W hT (fun k hk => (hlow k (by omega)).trans (hb0.block k hk)) hC hc) hcs)
  (fun k => k < W0.heap.size ∨ some k = (Value.slice (some ⟨w.heap.size + 1, 0, none⟩) least least).ownBlock) ⟨_, rfl, Nat.le_refl _, fun k _ => rfl, hbo, by rw [h0]; exact hR⟩
 have HC := Aside0.mk hcall
 have HB0 := Aside0.mk hb0
 have HSZ := Aside0.mk hsz
 have HW0 := Aside0.mk hW0
 clear hcall hb0 hsz hW0 hf0 hI hbo hR h0 hcs hof hES egT
 go_enter Try.func62, Try.ntmps62
 go_wp2_with (go_at_call 82; rw [← HW0.out]; refine HC.out.mono ?_; rintro e w5 ⟨rfl, ok5, ⟨v5, rfl, hs5, hl5, hc5, hR5⟩, ht5, ho5⟩; have hx5 : w5.cell? ⟨w.heap.size + 1 + 1, 0, none⟩ = some v5 := blk_cell hc5 0; have HS5 := Aside0.mk hs5; have HL5 := Aside0.mk hl5; have HR5 := Aside0.mk hR5; have HT5 := Aside0.mk ht5; clear hs5 hl5 hR5 ht5 ho5 hc5)
 go_ret
 refine ⟨_, rfl, Kd.R_lower (Kd.R_mono HR5.out (fun _ _ => trivial)) (by omega), ⟨HT5.out.os.trans HB0.out.os, HT5.out.tape.trans HB0.out.tape, HT5.out.output.trans HB0.out.output, Nat.le_trans HB0.out.size HT5.out.size, fun k hk => (HL5.out k (by omega)).trans (HB0.out.block k hk)⟩⟩
end Go.Proofs.Ytdcdkckpmkfjdaa
