/- Texts of one chain, in build order. -/
import Derived.Test.YtdcdkckpmkfjdaaYBWeightSumSetSum22
import Derived.Test.YtdcdkckpmkfjdaaWMore
namespace Go.Proofs.Ytdcdkckpmkfjdaa
open Go.RowKit Go.Proofs.Ytdcdkckpmkfjdaa.P Go.Proofs.Ytdcdkckpmkfjdaa.L Go.Proofs.YtdcdkckpmkfjdaaW.PrintWords Go.Proofs.YtdcdkckpmkfjdaaW.PrintLast Go.Proofs.YtdcdkckpmkfjdaaW.PrintMore
set_option linter.unusedVariables false

def impl_setWeight.f (l0 : List (List Int)) (l1 : List Int) (a2 : Int) : Option Int := if (isSign l0 && inB a2 0 4 && (l1.length == l0.length)) = true then some (L.setW (trianM l0) l1 a2 l0.length) else none
theorem impl_setWeight.calls (A0 : Option Addr) (c0 : Nat) (l0 : List (List Int)) (A1 : Option Addr) (c1 : Nat) (l1 : List Int) (a2 : Int) (r : Int) (w : World) (hr0 : Kd.C (Kd.slice 3 (Kd.int .i64)) w A0 l0.length l0) (hc0 : l0.length ≤ c0) (hr1 : Kd.C (Kd.int .i64) w A1 l1.length l1) (hc1 : l1.length ≤ c1) (h : impl_setWeight.f l0 l1 a2 = some r) :
  Calls Try.prog 76 #[.slice A0 l0.length c0, .slice A1 l1.length c1, .int .i64 a2] w fun e w' => e = .returned (.int .i64 r) ∧ Below w.heap.size w w' := by
 unfold impl_setWeight.f at h
 by_cases hc : (isSign l0 && inB a2 0 4 && (l1.length == l0.length)) = true
 ·rw [if_pos hc] at h
  obtain rfl := Option.some.inj h
  simp only [Bool.and_eq_true] at hc
  obtain ⟨⟨hs, hq⟩, hl⟩ := hc
  have hq2 := (inB_iff _ _ _).1 hq
  have hl2 := beq_iff_eq.1 hl
  have h2 := isSign_facts hs
  have htl : (trianM l0).length = l0.length := L.trianTo_length _ _
  obtain ⟨k, hk⟩ := (L.triangle_ev l0 hs).rounds
  have := impl_setWeight.callsG A0 c0 l0 A1 c1 l1 a2 w (trianM l0) (by omega) (by omega) (fun i hi => by
   rw [htl] at hi
   have e : (trianM l0).getD i [] = setRow l0 i l0.length := by simp [trianM, trianTo, List.getD_eq_getElem?_getD, hi]
   rw [e, L.setRow_length hs i hi]) (by omega) hq2.1 hq2.2 (impl_triangle.calls k A0 c0 l0 _ w hr0 hc0 hk) hr1
  rw [htl] at this
  exact this
 ·rw [if_neg hc] at h
  cases h
end Go.Proofs.Ytdcdkckpmkfjdaa

namespace Go.Proofs.Ytdcdkckpmkfjdaa.P
open Go.RowKit Go.Proofs.YtdcdkckpmkfjdaaW.PrintWords Go.Proofs.YtdcdkckpmkfjdaaW.PrintLast Go.Proofs.YtdcdkckpmkfjdaaW.PrintMore
attribute [local go_sem] max2_int min2_int max_two min_two max_three min_three max_four min_four   -- for this text's walks alone
set_option linter.unusedVariables false
set_option linter.unusedSimpArgs false

def impl_isWeighted.f (a0 : Int) : Option (Bool) := (impl_within.f a0 1 4).bind fun t167 => (some t167)
set_option maxHeartbeats 8000000 in
set_option maxRecDepth 100000 in
theorem impl_isWeighted.calls (a0 : Int) (r : Bool) (w : World) (h : impl_isWeighted.f a0 = some r) :
  Calls Try.prog 61 #[.int .i64 a0] w fun e w' => e = .returned (.bool r) ∧ Drawn0 w w' := by
 have H : ((impl_within.f a0 1 4).bind fun t167 => (some t167)) = some r := h
 clear h
 replace H := Option.bind_eq_some_iff.mp H
 obtain ⟨t167, A20, H⟩ := H
 replace H : (some t167) = some r := H
 have A2 := Aside0.mk A20
 clear A20
 obtain rfl := Option.some.inj H
 go_enter Try.func61, Try.ntmps61
 go_wp2_with (first | ((with_reducible refine gate_callee (f := 93) rfl ?_); refine goesL_ (some 4) rfl rfl Try.func93 (by kernel_rfl) rfl #[.int .i64 a0, .int .i64 1, .int .i64 4] rfl (by (try simp only [List.map_toArray, List.map_cons, List.map_nil]); first | done | rfl | (simp only [List.length_drop, List.length_take]; rfl)) ?_; (with_reducible refine (impl_within.calls a0 1 4 t167 _ A2.out).mono ?_); rintro e w' ⟨rfl, ⟨nd, rfl⟩⟩; refine ⟨_, rfl, ?_⟩))
 go_ret
 exact ⟨by first | rfl | (simp; done) | (simp [*]; done), by repeat (first | exact Drawn0.refl _ | apply Drawn0.step)⟩

end Go.Proofs.Ytdcdkckpmkfjdaa.P

namespace Go.Proofs.Ytdcdkckpmkfjdaa.P
open Go.RowKit Go.Proofs.YtdcdkckpmkfjdaaW.PrintWords Go.Proofs.YtdcdkckpmkfjdaaW.PrintLast Go.Proofs.YtdcdkckpmkfjdaaW.PrintMore
attribute [local go_sem] max2_int min2_int max_two min_two max_three min_three max_four min_four   -- for this text's walks alone
set_option linter.unusedVariables false
set_option linter.unusedSimpArgs false

def impl_areSet.f (l0 : List Int) (a1 : Int) : Option (Bool) := (impl_isWeighted.f (l0.length : Int)).bind fun t289 => (if t289 = true then ((impl_areWithin.f l0 0 4).bind fun t290 => (if t290 = true then ((impl_within.f a1 0 4).bind fun t291 => (some t291)) else (some false))) else (some false))
set_option maxHeartbeats 8000000 in
set_option maxRecDepth 100000 in
theorem impl_areSet.calls (A0 : Option Addr) (c0 : Nat) (l0 : List Int) (a1 : Int) (r : Bool) (w : World) (hr0 : Kd.C (Kd.int .i64) w A0 l0.length l0) (hc0 : l0.length ≤ c0) (h : impl_areSet.f l0 a1 = some r) :
  Calls Try.prog 74 #[.slice A0 l0.length c0, .int .i64 a1] w fun e w' => e = .returned (.bool r) ∧ Below w.heap.size w w' := by
 have HR0 := Aside0.mk hr0
 have HC0 := Aside0.mk hc0
 clear hr0 hc0
 have HB := Aside0.mk (Below.refl w.heap.size w)
 have H : ((impl_isWeighted.f (l0.length : Int)).bind fun t289 => (if t289 = true then ((impl_areWithin.f l0 0 4).bind fun t290 => (if t290 = true then ((impl_within.f a1 0 4).bind fun t291 => (some t291)) else (some false))) else (some false))) = some r := h
 clear h
 replace H := Option.bind_eq_some_iff.mp H
 obtain ⟨t289, A30, H⟩ := H
 replace H : (if t289 = true then ((impl_areWithin.f l0 0 4).bind fun t290 => (if t290 = true then ((impl_within.f a1 0 4).bind fun t291 => (some t291)) else (some false))) else (some false)) = some r := H
 have A3 := Aside0.mk A30
 clear A30
 by_cases c4 : t289 = true
 ·subst c4
  have H1 : ((impl_areWithin.f l0 0 4).bind fun t290 => (if t290 = true then ((impl_within.f a1 0 4).bind fun t291 => (some t291)) else (some false))) = some r := by rw [if_pos rfl] at H; exact H
  clear H
  have H := H1
  clear H1
  replace H := Option.bind_eq_some_iff.mp H
  obtain ⟨t290, A50, H⟩ := H
  replace H : (if t290 = true then ((impl_within.f a1 0 4).bind fun t291 => (some t291)) else (some false)) = some r := H
  have A5 := Aside0.mk A50
  clear A50
  by_cases c6 : t290 = true
  ·subst c6
   have H1 : ((impl_within.f a1 0 4).bind fun t291 => (some t291)) = some r := by rw [if_pos rfl] at H; exact H
   clear H
   have H := H1
   clear H1
   replace H := Option.bind_eq_some_iff.mp H
   obtain ⟨t291, A70, H⟩ := H
   replace H : (some t291) = some r := H
   have A7 := Aside0.mk A70
   clear A70
   obtain rfl := Option.some.inj H
   go_enter Try.func74, Try.ntmps74
   go_wp2_with (first | ((with_reducible refine gate_callee (f := 61) rfl ?_); refine goesL_ (some 7) rfl rfl Try.func61 (by kernel_rfl) rfl #[.int .i64 (l0.length : Int)] rfl (by (try simp only [List.map_toArray, List.map_cons, List.map_nil]); first | done | rfl | (simp only [List.length_drop, List.length_take]; rfl)) ?_; (with_reducible refine (impl_isWeighted.calls (l0.length : Int) true _ A3.out).mono ?_); rintro e w' ⟨rfl, ⟨nd, rfl⟩⟩; refine ⟨_, rfl, ?_⟩) | (go_at_call 115; (with_reducible refine (impl_areWithin.calls _ _ l0 0 4 true _ ?side1 ?side2 A5.out).mono ?_); (case side1 => repeat (first | exact HR0.out | (with_reducible refine Kd.C_alloc ?_ _) | (with_reducible refine Kd.C_drewN ?_ _) | (with_reducible refine Kd.C_drew ?_))); (case side2 => exact HC0.out); rintro e w8 ⟨rfl, hb⟩; have n0_ := Aside0.mk (below_step (by repeat (first | (with_reducible first | exact HB.out | apply below_alloc | apply pw_below_drewN | apply below_drew1) | exact HB.out)) hb); clear HB; have HB := n0_; clear n0_; (try clear hb); (try clear hb2); (try clear hk); (try clear hi)) | (go_at_call 93; (with_reducible refine (impl_within.calls a1 0 4 t291 _ A7.out).mono ?_); rintro e w' ⟨rfl, ⟨nd, rfl⟩⟩))
   go_ret
   exact ⟨by first | rfl | (simp [errW_none, errW_some] <;> rfl) | (simp [*, errW_none, errW_some] <;> rfl), by repeat (first | (with_reducible first | exact HB.out | apply below_alloc | apply pw_below_drewN | apply below_drew1) | exact HB.out)⟩
  ·replace c6 := Bool.eq_false_iff.mpr c6
   subst c6
   have H1 : (some false) = some r := by rw [if_neg (show ¬ (false = true) by decide)] at H; exact H
   clear H
   have H := H1
   clear H1
   obtain rfl := Option.some.inj H
   go_enter Try.func74, Try.ntmps74
   go_wp2_with (first | ((with_reducible refine gate_callee (f := 61) rfl ?_); refine goesL_ (some 7) rfl rfl Try.func61 (by kernel_rfl) rfl #[.int .i64 (l0.length : Int)] rfl (by (try simp only [List.map_toArray, List.map_cons, List.map_nil]); first | done | rfl | (simp only [List.length_drop, List.length_take]; rfl)) ?_; (with_reducible refine (impl_isWeighted.calls (l0.length : Int) true _ A3.out).mono ?_); rintro e w' ⟨rfl, ⟨nd, rfl⟩⟩; refine ⟨_, rfl, ?_⟩) | (go_at_call 115; (with_reducible refine (impl_areWithin.calls _ _ l0 0 4 false _ ?side1 ?side2 A5.out).mono ?_); (case side1 => repeat (first | exact HR0.out | (with_reducible refine Kd.C_alloc ?_ _) | (with_reducible refine Kd.C_drewN ?_ _) | (with_reducible refine Kd.C_drew ?_))); (case side2 => exact HC0.out); rintro e w9 ⟨rfl, hb⟩; have n0_ := Aside0.mk (below_step (by repeat (first | (with_reducible first | exact HB.out | apply below_alloc | apply pw_below_drewN | apply below_drew1) | exact HB.out)) hb); clear HB; have HB := n0_; clear n0_; (try clear hb); (try clear hb2); (try clear hk); (try clear hi)))
   go_ret
   exact ⟨by first | rfl | (simp [errW_none, errW_some] <;> rfl) | (simp [*, errW_none, errW_some] <;> rfl), by repeat (first | (with_reducible first | exact HB.out | apply below_alloc | apply pw_below_drewN | apply below_drew1) | exact HB.out)⟩
 ·replace c4 := Bool.eq_false_iff.mpr c4
  subst c4
  have H1 : (some false) = some r := by rw [if_neg (show ¬ (false = true) by decide)] at H; exact H
  clear H
  have H := H1
  clear H1
  obtain rfl := Option.some.inj H
  go_enter Try.func74, Try.ntmps74
  go_wp2_with (first | ((with_reducible refine gate_callee (f := 61) rfl ?_); refine goesL_ (some 7) rfl rfl Try.func61 (by kernel_rfl) rfl #[.int .i64 (l0.length : Int)] rfl (by (try simp only [List.map_toArray, List.map_cons, List.map_nil]); first | done | rfl | (simp only [List.length_drop, List.length_take]; rfl)) ?_; (with_reducible refine (impl_isWeighted.calls (l0.length : Int) false _ A3.out).mono ?_); rintro e w' ⟨rfl, ⟨nd, rfl⟩⟩; refine ⟨_, rfl, ?_⟩))
  go_ret
  exact ⟨by first | rfl | (simp [errW_none, errW_some] <;> rfl) | (simp [*, errW_none, errW_some] <;> rfl), by repeat (first | (with_reducible first | exact HB.out | apply below_alloc | apply pw_below_drewN | apply below_drew1) | exact HB.out)⟩

end Go.Proofs.Ytdcdkckpmkfjdaa.P

namespace Go.Proofs.Ytdcdkckpmkfjdaa.P
open Go.RowKit Go.Proofs.YtdcdkckpmkfjdaaW.PrintWords Go.Proofs.YtdcdkckpmkfjdaaW.PrintLast Go.Proofs.YtdcdkckpmkfjdaaW.PrintMore
attribute [local go_sem] max2_int min2_int max_two min_two max_three min_three max_four min_four   -- for this text's walks alone
set_option linter.unusedVariables false
set_option linter.unusedSimpArgs false

def impl_areBases.f (l0 : List Int) : Option (Bool) := (impl_areWithin.f l0 0 5).bind fun t250 => (some t250)
set_option maxHeartbeats 8000000 in
set_option maxRecDepth 100000 in
theorem impl_areBases.calls (A0 : Option Addr) (c0 : Nat) (l0 : List Int) (r : Bool) (w : World) (hr0 : Kd.C (Kd.int .i64) w A0 l0.length l0) (hc0 : l0.length ≤ c0) (h : impl_areBases.f l0 = some r) :
  Calls Try.prog 68 #[.slice A0 l0.length c0] w fun e w' => e = .returned (.bool r) ∧ Below w.heap.size w w' := by
 have HR0 := Aside0.mk hr0
 have HC0 := Aside0.mk hc0
 clear hr0 hc0
 have HB := Aside0.mk (Below.refl w.heap.size w)
 have H : ((impl_areWithin.f l0 0 5).bind fun t250 => (some t250)) = some r := h
 clear h
 replace H := Option.bind_eq_some_iff.mp H
 obtain ⟨t250, A20, H⟩ := H
 replace H : (some t250) = some r := H
 have A2 := Aside0.mk A20
 clear A20
 obtain rfl := Option.some.inj H
 go_enter Try.func68, Try.ntmps68
 go_wp2_with (first | ((with_reducible refine gate_callee (f := 115) rfl ?_); refine goesL_ (some 4) rfl rfl Try.func115 (by kernel_rfl) rfl #[.slice A0 l0.length c0, .int .i64 0, .int .i64 5] rfl (by (try simp only [List.map_toArray, List.map_cons, List.map_nil]); first | done | rfl | (simp only [List.length_drop, List.length_take]; rfl)) ?_; (with_reducible refine (impl_areWithin.calls _ _ l0 0 5 t250 _ ?side1 ?side2 A2.out).mono ?_); (case side1 => repeat (first | exact HR0.out | (with_reducible refine Kd.C_alloc ?_ _) | (with_reducible refine Kd.C_drewN ?_ _) | (with_reducible refine Kd.C_drew ?_))); (case side2 => exact HC0.out); rintro e w3 ⟨rfl, hb⟩; refine ⟨_, rfl, ?_⟩; have n0_ := Aside0.mk (below_step (by repeat (first | (with_reducible first | exact HB.out | apply below_alloc | apply pw_below_drewN | apply below_drew1) | exact HB.out)) hb); clear HB; have HB := n0_; clear n0_; (try clear hb); (try clear hb2); (try clear hk); (try clear hi)))
 go_ret
 exact ⟨by first | rfl | (simp [errW_none, errW_some] <;> rfl) | (simp [*, errW_none, errW_some] <;> rfl), by repeat (first | (with_reducible first | exact HB.out | apply below_alloc | apply pw_below_drewN | apply below_drew1) | exact HB.out)⟩

end Go.Proofs.Ytdcdkckpmkfjdaa.P

namespace Go.Proofs.Ytdcdkckpmkfjdaa
open Go.RowKit Go.Proofs.Ytdcdkckpmkfjdaa.P Go.Proofs.Ytdcdkckpmkfjdaa.L Go.Proofs.YtdcdkckpmkfjdaaW.PrintWords Go.Proofs.YtdcdkckpmkfjdaaW.PrintLast Go.Proofs.YtdcdkckpmkfjdaaW.PrintMore
set_option linter.unusedVariables false
set_option linter.unusedSimpArgs false
set_option maxRecDepth 100000

/-- All tables are sign matrices of side n. -/
def esGood (n : Nat) : Bool := (esX n).all fun T => isSign T && (T.length == n)
theorem esGood_all {n : Nat} (h0 : 1 ≤ n) (h1 : n ≤ 4) : esGood n = true := by
 have e : n = 1 ∨ n = 2 ∨ n = 3 ∨ n = 4 := by omega
 rcases e with rfl | rfl | rfl | rfl
 ·decide +kernel
 ·decide +kernel
 ·decide +kernel
 ·decide +kernel
theorem esGood_at {n : Nat} (h : esGood n = true) {T : List (List Int)} (hT : T ∈ esX n) : isSign T = true ∧ T.length = n := by
 have := List.all_eq_true.1 h T hT
 rw [Bool.and_eq_true] at this
 exact ⟨this.1, beq_iff_eq.1 this.2⟩
def swV (xs : List Int) (t : Int) (T : List (List Int)) : Int := L.setW (trianM T) xs t T.length
def wtV (a b c : Int) (T : List (List Int)) : Int := weightC (countsM T) a b c
def esSum (ofv : List (List Int) → Int) (n : Nat) : Int := smOf ofv (esX n) 0 (esX n).length
set_option maxHeartbeats 2000000 in
theorem SetSum_1.calls (W : World) (bx bt : Nat) (T : List (List Int)) (A : Option Addr) (c : Nat) (Ax : Option Addr) (nx cx : Nat) (t v : Int) (hx : W.cell? ⟨bx, 0, none⟩ = some (.slice Ax nx cx)) (ht : W.cell? ⟨bt, 0, none⟩ = some (.int .i64 t))
  (hcall : Calls Try.prog 76 #[.slice A T.length c, .slice Ax nx cx, .int .i64 t] W fun e w' => e = .returned (.int .i64 v) ∧ Below W.heap.size W w') :
  Calls Try.prog 75 (#[.slice A T.length c] ++ #[.pointer (some ⟨bx, 0, none⟩), .pointer (some ⟨bt, 0, none⟩)]) W fun e w' => e = .returned (.int .i64 v) ∧ Below W.heap.size W w' := by
 have HC := Aside0.mk hcall
 clear hcall
 go_enter Try.func75, Try.ntmps75
 go_wp2_with (go_at_call 76; refine HC.out.mono ?_; rintro e w1 ⟨rfl, hb⟩)
 go_ret
 exact ⟨rfl, by assumption⟩
set_option maxHeartbeats 2000000 in
theorem WeightSum_1.calls (W : World) (ba bb bc : Nat) (T : List (List Int)) (A : Option Addr) (c : Nat) (x y z v : Int) (hx : W.cell? ⟨ba, 0, none⟩ = some (.int .i64 x)) (hy : W.cell? ⟨bb, 0, none⟩ = some (.int .i64 y)) (hz : W.cell? ⟨bc, 0, none⟩ = some (.int .i64 z))
  (hcall : Calls Try.prog 71 #[.slice A T.length c, .int .i64 x, .int .i64 y, .int .i64 z] W fun e w' => e = .returned (.int .i64 v) ∧ Below W.heap.size W w') :
  Calls Try.prog 70 (#[.slice A T.length c] ++ #[.pointer (some ⟨ba, 0, none⟩), .pointer (some ⟨bb, 0, none⟩), .pointer (some ⟨bc, 0, none⟩)]) W fun e w' => e = .returned (.int .i64 v) ∧ Below W.heap.size W w' := by
 have HC := Aside0.mk hcall
 clear hcall
 go_enter Try.func70, Try.ntmps70
 go_wp2_with (go_at_call 71; refine HC.out.mono ?_; rintro e w1 ⟨rfl, hb⟩)
 go_ret
 exact ⟨rfl, by assumption⟩
def impl_SetSum.f (l0 : List Int) (a1 : Int) : Option (Int × Bool) := (impl_areSet.f l0 a1).bind fun b => if b = true then (if (1 ≤ l0.length ∧ l0.length ≤ 4) ∧ (inB a1 0 4 = true) then some (esSum (swV l0 a1) l0.length, true) else none) else some (0, false)
set_option maxHeartbeats 4000000 in
theorem impl_SetSum.calls (A0 : Option Addr) (c0 : Nat) (l0 : List Int) (a1 : Int) (r1 : Int) (r2 : Bool) (w : World) (hr0 : Kd.C (Kd.int .i64) w A0 l0.length l0) (hc0 : l0.length ≤ c0) (h : impl_SetSum.f l0 a1 = some (r1, r2)) :
  Calls Try.prog 28 #[.slice A0 l0.length c0, .int .i64 a1] w fun e w' => e = .returned (.tuple #[.int .i64 r1, .bool r2]) ∧ Below w.heap.size w w' := by
 unfold impl_SetSum.f at h
 obtain ⟨b, hb, h⟩ := Option.bind_eq_some_iff.1 h
 obtain ⟨W1, hW1⟩ : ∃ W1, W1 = (w.alloc (.cells #[.slice A0 l0.length c0] 22)).alloc (.cells #[.int .i64 a1] 3) := ⟨_, rfl⟩
 have hb1 : Below w.heap.size w W1 := by rw [hW1]; exact below_alloc (below_alloc (Below.refl _ _) _) _
 have hsz : W1.heap.size = w.heap.size + 1 + 1 := by rw [hW1]; simp
 have hx : W1.heap[w.heap.size]? = some (.cells #[.slice A0 l0.length c0] 22 (0, 0)) := by rw [hW1]; exact blk_alloc (blk_new_at rfl) _
 have ht : W1.heap[w.heap.size + 1]? = some (.cells #[.int .i64 a1] 3 (0, 0)) := by rw [hW1]; exact blk_new_at (by simp)
 have hF : Kd.F (Kd.int .i64) W1 (fun k => k < W1.heap.size) A0 l0.length l0 := Kd.C_F (Kd.heap_int .i64) (Kd.C_below hr0 (hb1.mono (Nat.le_refl _)))
 have HA := Aside0.mk (fun W (hC : Kd.C (Kd.int .i64) W A0 l0.length l0) => impl_areSet.calls A0 c0 l0 a1 b W hC hc0 hb)
 have HW1 := Aside0.mk hW1
 have HB1 := Aside0.mk hb1
 have HF := Aside0.mk hF
 have hk1 : W1.cell? ⟨w.heap.size, 0, none⟩ = some (.slice A0 l0.length c0) := blk_cell hx 0
 have hk2 : W1.cell? ⟨w.heap.size + 1, 0, none⟩ = some (.int .i64 a1) := blk_cell ht 0
 cases b with
 | false =>
  rw [if_neg (by simp)] at h
  obtain ⟨rfl, rfl⟩ := Prod.mk.inj (Option.some.inj h)
  clear hF hr0 hx ht h hb hW1 hk1 hk2
  go_enter Try.func28, Try.ntmps28
  go_wp2_with (go_at_call 74; rw [← HW1.out]; refine (HA.out _ (Kd.F_now HF.out)).mono ?_; rintro e w2 ⟨rfl, hd⟩; have HB2 := Aside0.mk (below_step HB1.out hd); clear hd)
  go_ret2
  exact ⟨rfl, HB2.out⟩
 | true =>
  rw [if_pos rfl] at h
  split at h
  case isFalse => cases h
  rename_i hn
  obtain ⟨rfl, rfl⟩ := Prod.mk.inj (Option.some.inj h)
  have hg := esGood_all hn.1.1 hn.1.2
  have HT := Aside0.mk (fun (w2 : World) (hb2 : Below W1.heap.size W1 w2) => impl_total.callsG l0.length 75 #[.pointer (some ⟨w.heap.size, 0, none⟩), .pointer (some ⟨w.heap.size + 1, 0, none⟩)] (smOf (swV l0 a1) (esX l0.length) 0) (esX l0.length) (swV l0 a1) (eachSigns_all hn.1.1 hn.1.2)
   (enters_of Try.func75 (by kernel_rfl) rfl) w2 (by
    intro T A c W hT hlow hC hc
    have hlow1 : ∀ k, k < W1.heap.size → W.heap[k]? = W1.heap[k]? := fun k hk => (hlow k (by have := hb2.size; omega)).trans (hb2.block k hk)
    obtain ⟨hs, hl⟩ := esGood_at hg hT
    refine SetSum_1.calls W w.heap.size (w.heap.size + 1) T A c A0 l0.length c0 a1 _ (blk_cell ((hlow1 _ (by omega)).trans hx) 0) (blk_cell ((hlow1 _ (by omega)).trans ht) 0) ?_
    exact impl_setWeight.calls A c T A0 c0 l0 a1 _ W hC hc (Kd.F_now (Kd.F_step hF (fun k hk _ => hlow1 k hk))) hc0 (by unfold impl_setWeight.f swV; rw [hs, hn.2, hl, if_pos (by simp)]))
   (by cases hq : esX l0.length <;> rfl) (smOf_step (swV l0 a1) _ _))
  clear hF hr0 hx ht h hb hW1 hn hg
  go_enter Try.func28, Try.ntmps28
  go_wp2_with (first
   | (go_at_call 74; rw [← HW1.out]; refine (HA.out _ (Kd.F_now HF.out)).mono ?_; rintro e w2 ⟨rfl, hd⟩; have hq1 := pw_cell_below hd hk1; have HB2 := Aside0.mk hd; clear hd)
   | (go_at_call 69; refine (HT.out _ HB2.out).mono ?_; rintro e w3 ⟨rfl, hd⟩; have HB3 := Aside0.mk (below_step (below_step HB1.out HB2.out) hd); clear hd))
  go_ret2
  exact ⟨rfl, HB3.out⟩
def impl_WeightSum.f (a0 a1 a2 a3 : Int) : Option (Int × Bool) := (impl_isWeighted.f a0).bind fun b => if b = true then ((impl_areBases.f [a1, a2, a3]).bind fun b2 => if b2 = true then (if 1 ≤ a0 ∧ a0 ≤ 4 then some (esSum (wtV a1 a2 a3) a0.toNat, true) else none) else some (0, false)) else some (0, false)
set_option maxHeartbeats 4000000 in
theorem impl_WeightSum.calls (a0 : Int) (a1 : Int) (a2 : Int) (a3 : Int) (r1 : Int) (r2 : Bool) (w : World) (h : impl_WeightSum.f a0 a1 a2 a3 = some (r1, r2)) :
  Calls Try.prog 25 #[.int .i64 a0, .int .i64 a1, .int .i64 a2, .int .i64 a3] w fun e w' => e = .returned (.tuple #[.int .i64 r1, .bool r2]) ∧ Below w.heap.size w w' := by
 unfold impl_WeightSum.f at h
 obtain ⟨b, hb, h⟩ := Option.bind_eq_some_iff.1 h
 obtain ⟨W1, hW1⟩ : ∃ W1, W1 = ((w.alloc (.cells #[.int .i64 a1] 3)).alloc (.cells #[.int .i64 a2] 3)).alloc (.cells #[.int .i64 a3] 3) := ⟨_, rfl⟩
 have hb1 : Below w.heap.size w W1 := by rw [hW1]; exact below_alloc (below_alloc (below_alloc (Below.refl _ _) _) _) _
 have hsz : W1.heap.size = w.heap.size + 1 + 1 + 1 := by rw [hW1]; simp
 have hx : W1.heap[w.heap.size]? = some (.cells #[.int .i64 a1] 3 (0, 0)) := by rw [hW1]; exact blk_alloc (blk_alloc (blk_new_at rfl) _) _
 have hy : W1.heap[w.heap.size + 1]? = some (.cells #[.int .i64 a2] 3 (0, 0)) := by rw [hW1]; exact blk_alloc (blk_new_at (by simp)) _
 have hz : W1.heap[w.heap.size + 1 + 1]? = some (.cells #[.int .i64 a3] 3 (0, 0)) := by rw [hW1]; exact blk_new_at (by simp)
 have HI := Aside0.mk (fun W => impl_isWeighted.calls a0 b W hb)
 have HW1 := Aside0.mk hW1
 have HB1 := Aside0.mk hb1
 have HSZ := Aside0.mk hsz
 have hk1 : W1.cell? ⟨w.heap.size, 0, none⟩ = some (.int .i64 a1) := blk_cell hx 0
 have hk2 : W1.cell? ⟨w.heap.size + 1, 0, none⟩ = some (.int .i64 a2) := blk_cell hy 0
 have hk3 : W1.cell? ⟨w.heap.size + 1 + 1, 0, none⟩ = some (.int .i64 a3) := blk_cell hz 0
 cases b with
 | false =>
  rw [if_neg (by simp)] at h
  obtain ⟨rfl, rfl⟩ := Prod.mk.inj (Option.some.inj h)
  clear hx hy hz h hb hW1 hk1 hk2 hk3 hsz hb1
  go_enter Try.func25, Try.ntmps25
  go_wp2_with (go_at_call 61; rw [← HW1.out]; refine (HI.out _).mono ?_; rintro e w2 ⟨rfl, hd⟩; have HB2 := Aside0.mk (below_step HB1.out hd.below); clear hd)
  go_ret2
  exact ⟨rfl, HB2.out⟩
 | true =>
  rw [if_pos rfl] at h
  obtain ⟨b2, hb2, h⟩ := Option.bind_eq_some_iff.1 h
  have HA := Aside0.mk (fun W (A : Option Addr) (hC : Kd.C (Kd.int .i64) W A ([a1, a2, a3] : List Int).length [a1, a2, a3]) => impl_areBases.calls A 3 [a1, a2, a3] b2 W hC (by simp) hb2)
  have H3 := Aside0.mk (fun (W : World) => show Kd.C (Kd.int .i64) (W.alloc (.cells #[.int .i64 a1, .int .i64 a2, .int .i64 a3] 3)) (some ⟨W.heap.size, 0, none⟩) ([a1, a2, a3] : List Int).length [a1, a2, a3] from (Kd.R_reads' (intBlk_R (base := 0) (ok := fun _ => True) (show intBlk _ _ [a1, a2, a3] from blk_new W _) (Nat.zero_le _) trivial (by simp))).2.2)
  cases b2 with
  | false =>
   rw [if_neg (by simp)] at h
   obtain ⟨rfl, rfl⟩ := Prod.mk.inj (Option.some.inj h)
   clear hx hy hz h hb hb2 hW1 hsz hb1
   go_enter Try.func25, Try.ntmps25
   go_wp2_with (first
    | (go_at_call 61; rw [← HW1.out]; refine (HI.out _).mono ?_; rintro e w2 ⟨rfl, hd⟩; have hb := hd.below; have hq1 := pw_cell_below hb hk1; have hq2 := pw_cell_below hb hk2; have hq3 := pw_cell_below hb hk3; have HB2 := Aside0.mk hb; clear hd hb)
    | (go_at_call 68; refine (HA.out _ _ (H3.out _)).mono ?_; rintro e w3 ⟨rfl, hd⟩; have HB3 := Aside0.mk (below_step (below_alloc (below_step HB1.out HB2.out) _) hd); clear hd))
   go_ret2
   exact ⟨rfl, HB3.out⟩
  | true =>
   rw [if_pos rfl] at h
   split at h
   case isFalse => cases h
   rename_i hn
   obtain ⟨rfl, rfl⟩ := Prod.mk.inj (Option.some.inj h)
   obtain ⟨n, rfl⟩ := Int.eq_ofNat_of_zero_le (show 0 ≤ a0 by omega)
   have hg := esGood_all (n := n) (by omega) (by omega)
   have HT := Aside0.mk (fun (w2 : World) (hb2 : Below W1.heap.size W1 w2) => impl_total.callsG n 70 #[.pointer (some ⟨w.heap.size, 0, none⟩), .pointer (some ⟨w.heap.size + 1, 0, none⟩), .pointer (some ⟨w.heap.size + 1 + 1, 0, none⟩)] (smOf (wtV a1 a2 a3) (esX n) 0) (esX n) (wtV a1 a2 a3) (eachSigns_all (by omega) (by omega))
    (enters_of Try.func70 (by kernel_rfl) rfl) w2 (by
     intro T A c W hT hlow hC hc
     have hlow1 : ∀ k, k < W1.heap.size → W.heap[k]? = W1.heap[k]? := fun k hk => (hlow k (by have := hb2.size; omega)).trans (hb2.block k hk)
     obtain ⟨hs, hl⟩ := esGood_at hg hT
     refine WeightSum_1.calls W w.heap.size (w.heap.size + 1) (w.heap.size + 1 + 1) T A c a1 a2 a3 _ (blk_cell ((hlow1 _ (by omega)).trans hx) 0) (blk_cell ((hlow1 _ (by omega)).trans hy) 0) (blk_cell ((hlow1 _ (by omega)).trans hz) 0) ?_
     exact impl_weight.calls A c T a1 a2 a3 _ W hC hc (by unfold impl_weight.f wtV; rw [hs, if_pos rfl]))
    (by cases hq : esX n <;> rfl) (smOf_step (wtV a1 a2 a3) _ _))
   rw [Int.toNat_natCast]
   clear hx hy hz h hb hb2 hW1 hsz hb1 hn hg
   go_enter Try.func25, Try.ntmps25
   go_wp2_with (first
    | (go_at_call 61; rw [← HW1.out]; refine (HI.out _).mono ?_; rintro e w2 ⟨rfl, hd⟩; have hb := hd.below; have hq1 := pw_cell_below hb hk1; have hq2 := pw_cell_below hb hk2; have hq3 := pw_cell_below hb hk3; have HB2 := Aside0.mk hb; clear hd hb)
    | (go_at_call 68; refine (HA.out _ _ (H3.out _)).mono ?_; rintro e w3 ⟨rfl, hd⟩; have HB3 := Aside0.mk (below_step (below_alloc HB2.out _) hd); clear hd)
    | (go_at_call 69; refine (HT.out _ HB3.out).mono ?_; rintro e w4 ⟨rfl, hd⟩; have HB4 := Aside0.mk (below_step (below_step HB1.out HB3.out) hd); clear hd))
   go_ret2
   exact ⟨rfl, HB4.out⟩
end Go.Proofs.Ytdcdkckpmkfjdaa
