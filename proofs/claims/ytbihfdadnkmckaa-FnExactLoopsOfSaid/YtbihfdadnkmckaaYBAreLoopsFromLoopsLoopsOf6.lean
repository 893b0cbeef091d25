/- Texts of one chain, in build order. -/
import Derived.Test.YtbihfdadnkmckaaYBAreLoopsFromLoopsLoopsOf5
namespace Go.Proofs.Ytbihfdadnkmckaa
open Go.RowKit Go.Proofs.YtbihfdadnkmckaaW.PrintWords Go.Proofs.YtbihfdadnkmckaaW.PrintLast Go.Proofs.YtbihfdadnkmckaaW.PrintMore
set_option linter.unusedVariables false
set_option linter.unusedSimpArgs false

def bitI (b : Bool) : Int := if b then 1 else 0
theorem impl_bit.calls' (b : Bool) (w : World) :
  Calls Try.prog 46 #[.bool b] w fun e w' => e = .returned (.int .i64 (bitI b)) ∧ w = w' := by
 cases b with
 | true =>
  go_enter Try.func46, Try.ntmps46
  go_wp2
  go_ret
  exact ⟨rfl, rfl⟩
 | false =>
  go_enter Try.func46, Try.ntmps46
  go_wp2
  go_ret
  exact ⟨rfl, rfl⟩
/-- The edges across and down, at places, and as tables. -/
def acF (m : List (List Int)) (i j : Nat) : Int := bitI ((ps (m.getD i []) j + i + j) % 2 == 0)
def dnF (m : List (List Int)) (i j : Nat) : Int := bitI ((ps (colL m j) i + i + j) % 2 == 1)
def acM (m : List (List Int)) : List (List Int) := tableL (acF m) m.length (m.length + 1)
def dnM (m : List (List Int)) : List (List Int) := tableL (dnF m) (m.length + 1) m.length

set_option maxHeartbeats 4000000 in
theorem loops_1.calls (l0 : List (List Int)) (i j b : Nat) (A0 : Option Addr) (c0 : Nat) (W : World) (hs : isSign l0 = true) (hi : i < l0.length) (hj : j < l0.length + 1)
  (hr0 : Kd.C (Kd.slice 3 (Kd.int .i64)) W A0 l0.length l0) (hc0 : l0.length ≤ c0) (hx0 : W.cell? ⟨b, 0, none⟩ = some (.slice A0 l0.length c0)) :
  Gives Try.prog 45 #[.int .i64 i, .int .i64 j, .pointer (some ⟨b, 0, none⟩)] W (.int .i64 (acF l0 i j)) := by
 unfold Gives
 obtain ⟨h1, h2, h3, h4⟩ := isSign_facts hs
 obtain ⟨ad, A1, c1, e0, hx, hc1, hrow⟩ := rowsAt hr0 i hi
 cases e0
 have hrl := h3 i hi
 have hsr := sumW_take (h4 i hi).1 (j := j) (by omega)
 have hps := alt_ps (h4 i hi).1 (j := j) (by omega)
 have hsum := fun W' hb => impl_sum.calls' A1 c1 ((l0.getD i []).take j) W' (Kd.C_below (Kd.C_take hrow (by omega)) hb)
 rw [hsr] at hsum
 have htl : ((l0.getD i []).take j).length = j := by rw [List.length_take]; omega
 rw [htl] at hsum
 have HK := Aside0.mk (show acF l0 i j = bitI ((ps (l0.getD i []) j + i + j) % 2 == 0) from rfl)
 obtain ⟨row, hrw⟩ : ∃ r, r = l0.getD i [] := ⟨_, rfl⟩
 rw [← hrw] at hx hsum HK hps hc1 hrl
 obtain ⟨p, hp⟩ : ∃ x, x = ps row j := ⟨_, rfl⟩
 rw [← hp] at hsum HK hps
 have hiz : (i : Int) < (l0.length : Int) := by omega
 have hjc : j ≤ c1 := by omega
 have HB0 := Aside0.mk (Below.refl W.heap.size W)
 obtain ⟨hp0, hp1⟩ := hps
 have hi6 : (i : Int) ≤ 10 := by omega
 have hj6 : (j : Int) ≤ 10 := by omega
 have hbit := fun W' => impl_bit.calls' ((p + i + j) % 2 == 0) W'
 rw [HK.out]
 clear hrw hp hrow hr0 h1 h3 h4 hsr htl hs hrl HK
 go_enter Try.func45, Try.ntmps45
 go_wp2_with (first | (go_at_call 47; refine (hsum _ HB0.out).mono ?_; rintro e w1 ⟨rfl, rfl⟩) | (go_at_call 46; refine (hbit _).mono ?_; rintro e w1 ⟨rfl, rfl⟩))
 go_ret
 exact ⟨rfl, HB0.out⟩
set_option maxHeartbeats 4000000 in
theorem loops_2.calls (l0 : List (List Int)) (i j b : Nat) (A0 : Option Addr) (c0 : Nat) (W : World) (hs : isSign l0 = true) (hi : i < l0.length + 1) (hj : j < l0.length)
  (hr0 : Kd.C (Kd.slice 3 (Kd.int .i64)) W A0 l0.length l0) (hc0 : l0.length ≤ c0) (hx0 : W.cell? ⟨b, 0, none⟩ = some (.slice A0 l0.length c0)) :
  Gives Try.prog 48 #[.int .i64 i, .int .i64 j, .pointer (some ⟨b, 0, none⟩)] W (.int .i64 (dnF l0 i j)) := by
 unfold Gives
 obtain ⟨h1, h2, h3, h4⟩ := isSign_facts hs
 have hcl := colL_length l0 j
 have hsc := sumW_take (h4 j hj).2 (j := i) (by omega)
 have hpc := alt_ps (h4 j hj).2 (j := i) (by omega)
 have hcol := fun W' hb => impl_column.calls' A0 c0 l0 j W' (Kd.C_below hr0 hb) (by omega) (fun k hk => by rw [h3 k hk]; exact hj)
 have HK := Aside0.mk (show dnF l0 i j = bitI ((ps (colL l0 j) i + i + j) % 2 == 1) from rfl)
 have HC := Aside0.mk (show i ≤ (colL l0 j).length by omega)
 obtain ⟨q, hq⟩ : ∃ x, x = ps (colL l0 j) i := ⟨_, rfl⟩
 rw [← hq] at hsc HK hpc
 have HB0 := Aside0.mk (Below.refl W.heap.size W)
 have HSC := Aside0.mk hsc
 obtain ⟨hq0, hq1⟩ := hpc
 have hi6 : (i : Int) ≤ 10 := by omega
 have hj6 : (j : Int) ≤ 10 := by omega
 have hbit := fun W' => impl_bit.calls' ((q + i + j) % 2 == 1) W'
 rw [HK.out]
 clear hq hr0 h1 h3 h4 hs hcl hsc HK
 go_enter Try.func48, Try.ntmps48
 go_wp2_with (first | (go_at_call 44; refine (hcol _ HB0.out).mono ?_; rintro e w2 ⟨v, rfl, hR, hb⟩; have HB2 := Aside0.mk hb; obtain ⟨A2, c2, rfl⟩ := Kd.R_slice hR; have hq := Kd.R_reads' hR; have hsum2 := impl_sum.calls' A2 c2 ((colL l0 j).take i) w2 (Kd.C_take hq.2.2 HC.out); rw [HSC.out, List.length_take, Nat.min_eq_left HC.out] at hsum2; have hcc := hq.2.1; have hic := HC.out; have hicc : i ≤ c2 := (by omega); clear hR hb hq) | (go_at_call 47; refine hsum2.mono ?_; rintro e w1 ⟨rfl, rfl⟩) | (go_at_call 46; refine (hbit _).mono ?_; rintro e w1 ⟨rfl, rfl⟩))
 go_ret
 exact ⟨rfl, HB2.out⟩
def impl_loops.f (l0 : List (List Int)) : Option (Int × List (List Int) × List (List Int)) := if isSign l0 = true then some ((l0.length : Int), acM l0, dnM l0) else none
theorem blk_newA {w : World} {o : Obj} {g : Nat} (h : g = w.heap.size) : (w.alloc o).heap[g]? = some o := h ▸ blk_new w o
/-- Two tables, one made behind the other, share no block. -/
theorem two_S {W W' : World} {B B' : Nat} {A1 A2 : Option Addr} {n1 n2 c1 c2 : Nat} {T U : List (List Int)} (h : Kd.S (Kd.slice 3 (Kd.int .i64)) 41 W B (fun _ => True) (.slice A1 n1 c1) T) (hb : Below W.heap.size W W') (k : Kd.S (Kd.slice 3 (Kd.int .i64)) 41 W' B' (fun _ => True) (.slice A2 n2 c2) U) (hB : B ≤ B') (hW : W.heap.size ≤ B') :
  Kd.S (Kd.slice 3 (Kd.int .i64)) 41 W' B (fun k_ => some k_ ≠ (Value.slice A2 n2 c2).ownBlock) (.slice A1 n1 c1) T ∧
   Kd.S (Kd.slice 3 (Kd.int .i64)) 41 W' B (fun k_ => some k_ ≠ (Value.slice A1 n1 c1).ownBlock) (.slice A2 n2 c2) U := by
 have h1 := Kd.S_bound h
 refine ⟨Kd.S_mono (Kd.S_below h1 hb) (fun q hq e => ?_), Kd.S_lower (Kd.S_mono (Kd.S_bound k) (fun q hq e => ?_)) hB⟩
 ·have := Kd.S_base k q e.symm
  have := hq.2.2.1
  omega
 ·have := Kd.S_lt h q e.symm
  have := hq.2.1
  omega
theorem S_far3 {α : Type} {d : Kd α} {e B b g : Nat} {W : World} {ok : Nat → Prop} {v : Value} {xs : List α} (h : Kd.S d e W B ok v xs) (hb : b ≤ B) (hg : g < B) (u0 u1 u2 : Value) : Kd.S d e (((W.setCell ⟨g, 0, none⟩ u0).setCell ⟨g, 1, none⟩ u1).setCell ⟨g, 2, none⟩ u2) b ok v xs := by
 have h1 := Kd.S_mono (ok' := fun k => ok k ∧ k ≠ g) (Kd.S_bound h) (fun k hk => ⟨hk.1, by have := hk.2.1; omega⟩)
 exact Kd.S_mono (Kd.S_lower (Kd.S_far (p := ⟨g, 2, none⟩) (Kd.S_far (p := ⟨g, 1, none⟩) (Kd.S_far (p := ⟨g, 0, none⟩) h1 (fun _ hk => hk.2) _) (fun _ hk => hk.2) _) (fun _ hk => hk.2) _) hb) (fun _ hk => hk.1)
set_option maxHeartbeats 4000000 in
theorem impl_loops.calls (A0 : Option Addr) (c0 : Nat) (l0 : List (List Int)) (r1 : Int) (r2 : List (List Int)) (r3 : List (List Int)) (w : World) (hr0 : Kd.C (Kd.slice 3 (Kd.int .i64)) w A0 l0.length l0) (hc0 : l0.length ≤ c0) (h : impl_loops.f l0 = some (r1, r2, r3)) :
  Calls Try.prog 27 #[.slice A0 l0.length c0] w fun e w' => ∃ v1_ v2_ : Value, e = .returned (.agg #[.int .i64 r1, v1_, v2_]) ∧ Kd.S (Kd.slice 3 (Kd.int .i64)) 41 w' w.heap.size (fun k_ => some k_ ≠ (v2_ : Value).ownBlock) v1_ r2 ∧ Kd.S (Kd.slice 3 (Kd.int .i64)) 41 w' w.heap.size (fun k_ => some k_ ≠ (v1_ : Value).ownBlock) v2_ r3 ∧ Below w.heap.size w w' := by
 unfold impl_loops.f at h
 by_cases hs : isSign l0 = true
 case neg => rw [if_neg hs] at h; cases h
 rw [if_pos hs] at h
 simp only [Option.some.injEq, Prod.mk.injEq] at h
 obtain ⟨rfl, rfl, rfl⟩ := h
 have eg1 : ∀ args w, (callFunc 45 args).run Try.prog w = .ok (.enter 45 args) w := enters_of Try.func45 (by kernel_rfl) rfl
 have eg2 : ∀ args w, (callFunc 48 args).run Try.prog w = .ok (.enter 48 args) w := enters_of Try.func48 (by kernel_rfl) rfl
 obtain ⟨W1, hW1⟩ : ∃ W1, W1 = (w.alloc (.cells #[.slice A0 l0.length c0] 22)).alloc (.cells #[.int .i64 0, .slice none 0 0, .slice none 0 0] 25) := ⟨_, rfl⟩
 have hB1 : Below w.heap.size w W1 := by rw [hW1]; exact below_alloc (below_alloc (Below.refl _ _) _) _
 have hx : W1.cell? ⟨w.heap.size, 0, none⟩ = some (.slice A0 l0.length c0) := by rw [hW1]; exact blk_cell (blk_alloc (blk_newA rfl) _) 0
 have hy : W1.heap[w.heap.size + 1]? = some (.cells #[.int .i64 0, .slice none 0 0, .slice none 0 0] 25 (0, 0)) := by rw [hW1]; exact blk_newA (by simp)
 have h2 := (isSign_facts hs).2.1
 have hC1 := Kd.C_below hr0 hB1
 have HW1 := Aside0.mk hW1
 have HB1 := Aside0.mk hB1
 have HY := Aside0.mk hy
 have HN1 := Aside0.mk (show ((l0.length : Int) + 1) = ((l0.length + 1 : Nat) : Int) by omega)
 have HSZ := Aside0.mk (show W1.heap.size = w.heap.size + 1 + 1 by rw [hW1]; simp)
 have HT1 := Aside0.mk (impl_tableC.calls 45 #[.pointer (some ⟨w.heap.size, 0, none⟩)] (acF l0) l0.length (l0.length + 1) W1 (by omega) (by omega) eg1
  (fun i j W hi hj hb => loops_1.calls l0 i j _ A0 c0 W hs hi hj (Kd.C_below hC1 hb) hc0 (pw_cell_below hb hx)))
 have HT2 := Aside0.mk (fun (w2 : World) (hb2 : Below W1.heap.size W1 w2) => impl_tableC.calls 48 #[.pointer (some ⟨w.heap.size, 0, none⟩)] (dnF l0) (l0.length + 1) l0.length w2 (by omega) (by omega) eg2
  (fun i j W hi hj hb => loops_2.calls l0 i j _ A0 c0 W hs hi hj (Kd.C_below (Kd.C_below hC1 hb2) hb) hc0 (pw_cell_below hb (pw_cell_below hb2 hx))))
 have hn6 : (l0.length : Int) ≤ 10 := by omega
 clear hr0 hs hB1 hC1 hW1 hy
 go_enter Try.func27, Try.ntmps27
 go_wp2_with (first
  | (go_at_call 35; rw [← HW1.out]; have h_ := HT1.out; rw [← HN1.out] at h_; refine h_.mono ?_; clear h_; rintro e w2 ⟨v1, rfl, hS1, hb1⟩; obtain ⟨A1, c1, rfl⟩ := Kd.R_slice (Kd.S_R hS1); have HS1 := Aside0.mk hS1; have HB2 := Aside0.mk hb1; have HT3 := Aside0.mk (HT2.out w2 hb1); clear HT1 hS1 hb1)
  | (go_at_call 35; have h_ := HT3.out; rw [← HN1.out] at h_; refine h_.mono ?_; clear h_; rintro e w3 ⟨v2, rfl, hS2, hb2⟩; obtain ⟨A2, c2, rfl⟩ := Kd.R_slice (Kd.S_R hS2); have HS2 := Aside0.mk hS2; have HB3 := Aside0.mk hb2; have HY3 := Aside0.mk (blk_below (blk_below HY.out HB2.out) hb2); clear HT3 hS2 hb2; have hk0 := blk_cell HY3.out 0; have hk1 := blk_cell HY3.out 1; have hk2 := blk_cell HY3.out 2; have hf0 := blk_frozen HY3.out 0; have hf1 := blk_frozen HY3.out 1; have hf2 := blk_frozen HY3.out 2))
 refine bodyPost_ret (results_cell_row rfl _ _ (w.heap.size + 1) 25 #[.int .i64 (l0.length : Int), .slice A1 (acM l0).length c1, .slice A2 (dnM l0).length c2] (0, 0) _ rfl (by
  refine blk_put (cs := #[.int .i64 (l0.length : Int), .slice A1 (acM l0).length c1, .slice none 0 0]) ?_ 2 _ rfl
  refine blk_put (cs := #[.int .i64 (l0.length : Int), .slice none 0 0, .slice none 0 0]) ?_ 1 _ rfl
  refine blk_put (cs := #[.int .i64 0, .slice none 0 0, .slice none 0 0]) ?_ 0 _ rfl
  exact HY3.out) Try.underlying25 rfl (by kernel_rfl)) rfl ?_
 obtain ⟨k1, k2⟩ := two_S HS1.out HB3.out HS2.out HB2.out.size (Nat.le_refl _)
 have hz := HSZ.out
 exact ⟨_, _, rfl, S_far3 k1 (by omega) (by omega) _ _ _, S_far3 k2 (by omega) (by omega) _ _ _, Below.setCell (Below.setCell (Below.setCell (below_step (below_step HB1.out HB2.out) HB3.out) (by show _ ≤ w.heap.size + 1; omega) _) (by show _ ≤ w.heap.size + 1; omega) _) (by show _ ≤ w.heap.size + 1; omega) _⟩
end Go.Proofs.Ytbihfdadnkmckaa

namespace Go.Proofs.Ytbihfdadnkmckaa.P
open Go.RowKit Go.Proofs.YtbihfdadnkmckaaW.PrintWords Go.Proofs.YtbihfdadnkmckaaW.PrintLast Go.Proofs.YtbihfdadnkmckaaW.PrintMore
attribute [local go_sem] max2_int min2_int max_two min_two max_three min_three max_four min_four   -- for this text's walks alone
set_option linter.unusedVariables false
set_option linter.unusedSimpArgs false

def spec_l1In.f (a0 : Int) (a1 : Int) (a2 : Int) : Option (Bool) := if a0 ≥ a1 then (some (decide (a0 ≤ a2))) else (some false)
set_option maxHeartbeats 8000000 in
set_option maxRecDepth 100000 in
theorem spec_l1In.calls (a0 : Int) (a1 : Int) (a2 : Int) (r : Bool) (w : World) (h : spec_l1In.f a0 a1 a2 = some r) :
  Calls Try.prog 57 #[.int .i64 a0, .int .i64 a1, .int .i64 a2] w fun e w' => e = .returned (.bool r) ∧ Drawn0 w w' := by
 have H : (if a0 ≥ a1 then (some (decide (a0 ≤ a2))) else (some false)) = some r := h
 clear h
 by_cases c4 : a0 ≥ a1
 ·rw [if_pos c4] at H
  have c4b0 : decide (a1 ≤ a0) = true := decide_eq_true c4
  clear c4
  obtain rfl := Option.some.inj H
  go_enter Try.func57, Try.ntmps57
  go_wp2
  go_ret
  exact ⟨by first | rfl | (simp; done) | (simp [*]; done), by repeat (first | exact Drawn0.refl _ | apply Drawn0.step)⟩
 ·rw [if_neg c4] at H
  have c4b0 : decide (a1 ≤ a0) = false := decide_eq_false c4
  clear c4
  obtain rfl := Option.some.inj H
  go_enter Try.func57, Try.ntmps57
  go_wp2
  go_ret
  exact ⟨by first | rfl | (simp; done) | (simp [*]; done), by repeat (first | exact Drawn0.refl _ | apply Drawn0.step)⟩

end Go.Proofs.Ytbihfdadnkmckaa.P

namespace Go.Proofs.Ytbihfdadnkmckaa.P
open Go.RowKit Go.Proofs.YtbihfdadnkmckaaW.PrintWords Go.Proofs.YtbihfdadnkmckaaW.PrintLast Go.Proofs.YtbihfdadnkmckaaW.PrintMore
attribute [local go_sem] max2_int min2_int max_two min_two max_three min_three max_four min_four   -- for this text's walks alone
set_option linter.unusedVariables false
set_option linter.unusedSimpArgs false

def spec_sgSquare.l0 : Nat → List (List Int) → List (List Int) → Int → Int → Option (Bool)
 | 0, _, _, _, _ => none
 | k + 1, x0, x9, x10, x11 => if x11 < x10 then (if 0 ≤ x11 then (if x11 < (x9.length : Int) then (if ((rd_L1 x9 x11).length : Int) = (x0.length : Int) then (spec_sgSquare.l0 k x0 x9 x10 (wrap64 (x11 + 1))) else (some false)) else (none)) else (none)) else (some true)
def spec_sgSquare.f (k : Nat) (l0 : List (List Int)) : Option (Bool) := (spec_l1In.f (l0.length : Int) 1 6).bind fun t103 => (if t103 = true then (spec_sgSquare.l0 k l0 l0 (l0.length : Int) 0) else (some false))
set_option maxHeartbeats 8000000 in
set_option maxRecDepth 100000 in
theorem spec_sgSquare.calls (k : Nat) (A0 : Option Addr) (c0 : Nat) (l0 : List (List Int)) (r : Bool) (w : World) (hr0 : Kd.C (Kd.slice 3 (Kd.int .i64)) w A0 l0.length l0) (hc0 : l0.length ≤ c0) (h : spec_sgSquare.f k l0 = some r) :
  Calls Try.prog 39 #[.slice A0 l0.length c0] w fun e w' => e = .returned (.bool r) ∧ Drawn0 w w' := by
 have HR0 := Aside0.mk hr0
 have HC0 := Aside0.mk hc0
 clear hr0 hc0
 have H : ((spec_l1In.f (l0.length : Int) 1 6).bind fun t103 => (if t103 = true then (spec_sgSquare.l0 k l0 l0 (l0.length : Int) 0) else (some false))) = some r := h
 clear h
 replace H := Option.bind_eq_some_iff.mp H
 obtain ⟨t103, A20, H⟩ := H
 replace H : (if t103 = true then (spec_sgSquare.l0 k l0 l0 (l0.length : Int) 0) else (some false)) = some r := H
 have A2 := Aside0.mk A20
 clear A20
 by_cases c3 : t103 = true
 ·subst c3
  have H1 : (spec_sgSquare.l0 k l0 l0 (l0.length : Int) 0) = some r := by rw [if_pos rfl] at H; exact H
  clear H
  have H := H1
  clear H1
  have H' := Aside0.mk H
  clear H
  go_enter Try.func39, Try.ntmps39
  go_wp2_with (first | ((with_reducible refine gate_callee (f := 57) rfl ?_); refine goesL_ (some 7) rfl rfl Try.func57 (by kernel_rfl) rfl #[.int .i64 (l0.length : Int), .int .i64 1, .int .i64 6] rfl (by (try simp only [List.map_toArray, List.map_cons, List.map_nil]); first | done | rfl | (simp only [List.length_drop, List.length_take]; rfl)) ?_; (with_reducible refine (spec_l1In.calls (l0.length : Int) 1 6 true _ A2.out).mono ?_); rintro e w' ⟨rfl, ⟨nd, rfl⟩⟩; refine ⟨_, rfl, ?_⟩))
  go_loopg [11] k (fun kq v11 w' => ∃ (x11_1 : Int), v11 = .int .i64 x11_1 ∧ Aside0 (spec_sgSquare.l0 kq l0 l0 (l0.length : Int) x11_1 = some r) ∧ Aside0 (kq ≤ k) ∧ Drawn0 w w')
  case atStart => exact ⟨(0), (by first | rfl | (simp; done) | (simp [*]; done)), H', ⟨Nat.le_refl _⟩, by repeat (first | exact Drawn0.refl _ | apply Drawn0.step)⟩
  case round =>
   clear H'
   try clear p2
   try clear c3
   obtain ⟨x11_1, rfl, HA, HK1, ⟨m1, rfl⟩⟩ := hrel
   cases gk with
   | zero => exact absurd HA.out (by simp [spec_sgSquare.l0])
   | succ k1 =>
    have H := HA.out
    clear HA
    simp only [spec_sgSquare.l0] at H
    by_cases c4 : x11_1 < (l0.length : Int)
    ·rw [if_pos c4] at H
     have c4b0 : decide (x11_1 < (l0.length : Int)) = true := decide_eq_true c4
     clear c4
     by_cases c5 : 0 ≤ x11_1
     ·rw [if_pos c5] at H
      have c5b0 : decide (0 ≤ x11_1) = true := decide_eq_true c5
      clear c5
      by_cases c6 : x11_1 < (l0.length : Int)
      ·rw [if_pos c6] at H
       have c6b0 : decide (x11_1 < (l0.length : Int)) = true := decide_eq_true c6
       clear c6
       by_cases c7 : ((rd_L1 l0 x11_1).length : Int) = (l0.length : Int)
       ·rw [if_pos c7] at H
        have c7b0 : (((rd_L1 l0 x11_1).length : Int) == (l0.length : Int)) = true := beq_iff_eq.mpr c7
        have c7b1 : (((rd_L1 l0 x11_1).length : Int) != (l0.length : Int)) = false := bne_eq_false_iff_eq.mpr c7
        have c7b2 : ((rd_L1 l0 x11_1).length == l0.length) = true := by first | simpa using c7 | (simp at c7 ⊢; omega)
        clear c7
        have H' := Aside0.mk H
        clear H
        have p104 : 0 ≤ (x11_1 : Int) := of_decide_eq_true (by first | (with_reducible assumption) | assumption)
        have q104 : x11_1 < (l0.length : Int) := of_decide_eq_true (by first | (with_reducible assumption) | assumption)
        obtain ⟨ad104, A104_0, c104_0, e104, hx104_0, hl104_0, hi104_0⟩ := at_L1 HR0.out x11_1 p104 q104
        cases e104
        have HR104_0 := Aside0.mk hi104_0
        have HC104_0 := Aside0.mk hl104_0
        clear hi104_0 hl104_0
        replace p104 := eq_true p104
        replace q104 := eq_true q104
        go_wp2
        go_roundg k1
        case measure => have := HK1.out; omega
        case rel => exact ⟨(wrap64 (x11_1 + 1)), (by first | rfl | (simp; done) | (simp [*]; done)), H', ⟨by have := HK1.out; omega⟩, by repeat (first | exact Drawn0.refl _ | apply Drawn0.step)⟩
       ·rw [if_neg c7] at H
        have c7b0 : (((rd_L1 l0 x11_1).length : Int) == (l0.length : Int)) = false := beq_eq_false_iff_ne.mpr c7
        have c7b1 : (((rd_L1 l0 x11_1).length : Int) != (l0.length : Int)) = true := bne_iff_ne.mpr c7
        have c7b2 : ((rd_L1 l0 x11_1).length == l0.length) = false := by first | simpa using c7 | (simp at c7 ⊢; omega)
        obtain rfl := Option.some.inj H
        have p104 : 0 ≤ (x11_1 : Int) := of_decide_eq_true (by first | (with_reducible assumption) | assumption)
        have q104 : x11_1 < (l0.length : Int) := of_decide_eq_true (by first | (with_reducible assumption) | assumption)
        obtain ⟨ad104, A104_0, c104_0, e104, hx104_0, hl104_0, hi104_0⟩ := at_L1 HR0.out x11_1 p104 q104
        cases e104
        have HR104_0 := Aside0.mk hi104_0
        have HC104_0 := Aside0.mk hl104_0
        clear hi104_0 hl104_0
        replace p104 := eq_true p104
        replace q104 := eq_true q104
        go_wp2
        go_ret
        exact ⟨by first | rfl | (simp; done) | (simp [*]; done), by repeat (first | exact Drawn0.refl _ | apply Drawn0.step)⟩
      ·rw [if_neg c6] at H
       exact absurd H (by simp)
     ·rw [if_neg c5] at H
      exact absurd H (by simp)
    ·rw [if_neg c4] at H
     have c4b0 : decide (x11_1 < (l0.length : Int)) = false := decide_eq_false c4
     clear c4
     obtain rfl := Option.some.inj H
     go_wp2
     go_ret
     exact ⟨by first | rfl | (simp; done) | (simp [*]; done), by repeat (first | exact Drawn0.refl _ | apply Drawn0.step)⟩
 ·replace c3 := Bool.eq_false_iff.mpr c3
  subst c3
  have H1 : (some false) = some r := by rw [if_neg (show ¬ (false = true) by decide)] at H; exact H
  clear H
  have H := H1
  clear H1
  obtain rfl := Option.some.inj H
  go_enter Try.func39, Try.ntmps39
  go_wp2_with (first | ((with_reducible refine gate_callee (f := 57) rfl ?_); refine goesL_ (some 7) rfl rfl Try.func57 (by kernel_rfl) rfl #[.int .i64 (l0.length : Int), .int .i64 1, .int .i64 6] rfl (by (try simp only [List.map_toArray, List.map_cons, List.map_nil]); first | done | rfl | (simp only [List.length_drop, List.length_take]; rfl)) ?_; (with_reducible refine (spec_l1In.calls (l0.length : Int) 1 6 false _ A2.out).mono ?_); rintro e w' ⟨rfl, ⟨nd, rfl⟩⟩; refine ⟨_, rfl, ?_⟩))
  go_ret
  exact ⟨by first | rfl | (simp; done) | (simp [*]; done), by repeat (first | exact Drawn0.refl _ | apply Drawn0.step)⟩

end Go.Proofs.Ytbihfdadnkmckaa.P

namespace Go.Proofs.Ytbihfdadnkmckaa.P
open Go.RowKit Go.Proofs.YtbihfdadnkmckaaW.PrintWords Go.Proofs.YtbihfdadnkmckaaW.PrintLast Go.Proofs.YtbihfdadnkmckaaW.PrintMore
attribute [local go_sem] max2_int min2_int max_two min_two max_three min_three max_four min_four   -- for this text's walks alone
set_option linter.unusedVariables false
set_option linter.unusedSimpArgs false

mutual
def spec_sgRows.l0 : Nat → List (List Int) → Int → Int → Option (Bool)
 | 0, _, _, _ => none
 | k + 1, x8, x9, x10 => if x10 < x9 then (if 0 ≤ x10 then (if x10 < (x8.length : Int) then (spec_sgRows.l1 k 0 x8 x9 x10 (rd_L1 x8 x10) ((rd_L1 x8 x10).length : Int) 0) else (none)) else (none)) else (some true)
def spec_sgRows.l1 : Nat → Int → List (List Int) → Int → Int → List Int → Int → Int → Option (Bool)
 | 0, _, _, _, _, _, _, _ => none
 | k + 1, x5, x8, x9, x10, x14, x15, x16 => if x16 < x15 then (if 0 ≤ x16 then (if x16 < (x14.length : Int) then ((spec_l1In.f (rd x14 x16) (-1) 1).bind fun t107 => (if t107 = true then ((spec_l1In.f (wrap64 (x5 + (rd x14 x16))) 0 1).bind fun t108 => (if t108 = true then (spec_sgRows.l1 k (wrap64 (x5 + (rd x14 x16))) x8 x9 x10 x14 x15 (wrap64 (x16 + 1))) else (some false))) else (some false))) else (none)) else (none)) else (if x5 = 1 then (spec_sgRows.l0 k x8 x9 (wrap64 (x10 + 1))) else (some false))
end
def spec_sgRows.f (k : Nat) (l0 : List (List Int)) : Option (Bool) := spec_sgRows.l0 k l0 (l0.length : Int) 0
set_option maxHeartbeats 8000000 in
set_option maxRecDepth 100000 in
theorem spec_sgRows.calls (k : Nat) (A0 : Option Addr) (c0 : Nat) (l0 : List (List Int)) (r : Bool) (w : World) (hr0 : Kd.C (Kd.slice 3 (Kd.int .i64)) w A0 l0.length l0) (hc0 : l0.length ≤ c0) (h : spec_sgRows.f k l0 = some r) :
  Calls Try.prog 40 #[.slice A0 l0.length c0] w fun e w' => e = .returned (.bool r) ∧ Drawn0 w w' := by
 have HR0 := Aside0.mk hr0
 have HC0 := Aside0.mk hc0
 clear hr0 hc0
 have H : (spec_sgRows.l0 k l0 (l0.length : Int) 0) = some r := h
 clear h
 have H' := Aside0.mk H
 clear H
 go_enter Try.func40, Try.ntmps40
 go_wp2
 go_loopg [10] k (fun kq v10 w' => ∃ (x10_1 : Int), v10 = .int .i64 x10_1 ∧ Aside0 (spec_sgRows.l0 kq l0 (l0.length : Int) x10_1 = some r) ∧ Aside0 (kq ≤ k) ∧ Drawn0 w w')
 case atStart => exact ⟨(0), (by first | rfl | (simp; done) | (simp [*]; done)), H', ⟨Nat.le_refl _⟩, by repeat (first | exact Drawn0.refl _ | apply Drawn0.step)⟩
 case round =>
  clear H'
  obtain ⟨x10_1, rfl, HA, HK1, ⟨m1, rfl⟩⟩ := hrel
  cases gk with
  | zero => exact absurd HA.out (by simp [spec_sgRows.l0])
  | succ k1 =>
   have H := HA.out
   clear HA
   simp only [spec_sgRows.l0] at H
   by_cases c2 : x10_1 < (l0.length : Int)
   ·rw [if_pos c2] at H
    have c2b0 : decide (x10_1 < (l0.length : Int)) = true := decide_eq_true c2
    clear c2
    by_cases c3 : 0 ≤ x10_1
    ·rw [if_pos c3] at H
     have c3b0 : decide (0 ≤ x10_1) = true := decide_eq_true c3
     clear c3
     by_cases c4 : x10_1 < (l0.length : Int)
     ·rw [if_pos c4] at H
      have c4b0 : decide (x10_1 < (l0.length : Int)) = true := decide_eq_true c4
      clear c4
      have H' := Aside0.mk H
      clear H
      have p105 : 0 ≤ (x10_1 : Int) := of_decide_eq_true (by first | (with_reducible assumption) | assumption)
      have q105 : x10_1 < (l0.length : Int) := of_decide_eq_true (by first | (with_reducible assumption) | assumption)
      obtain ⟨ad105, A105_0, c105_0, e105, hx105_0, hl105_0, hi105_0⟩ := at_L1 HR0.out x10_1 p105 q105
      cases e105
      have HR105_0 := Aside0.mk hi105_0
      have HC105_0 := Aside0.mk hl105_0
      clear hi105_0 hl105_0
      replace p105 := eq_true p105
      replace q105 := eq_true q105
      go_wp2
      go_loopg [5, 16] k1 (fun kq v5 v16 w' => ∃ (x5_2 : Int) (x16_2 : Int), v5 = .int .i64 x5_2 ∧ v16 = .int .i64 x16_2 ∧ Aside0 (spec_sgRows.l1 kq x5_2 l0 (l0.length : Int) x10_1 (rd_L1 l0 x10_1) ((rd_L1 l0 x10_1).length : Int) x16_2 = some r) ∧ Aside0 (kq ≤ k1) ∧ Drawn0 w w')
      case atStart => exact ⟨(0), (0), (by first | rfl | (simp; done) | (simp [*]; done)), (by first | rfl | (simp; done) | (simp [*]; done)), H', ⟨Nat.le_refl _⟩, by repeat (first | exact Drawn0.refl _ | apply Drawn0.step)⟩
      case round =>
       clear H'
       try clear c1
       try clear p1
       try clear q1
       try clear hx1
       try clear c2
       try clear c2b0
       try clear p2
       try clear c3
       try clear c3b0
       try clear c4
       try clear c4b0
       try clear hx105_0
       try clear p105
       try clear q105
       obtain ⟨x5_2, x16_2, rfl, rfl, HA, HK2, ⟨m2, rfl⟩⟩ := hrel
       cases gk with
       | zero => exact absurd HA.out (by simp [spec_sgRows.l1])
       | succ k2 =>
        have H := HA.out
        clear HA
        simp only [spec_sgRows.l1] at H
        by_cases c5 : x16_2 < ((rd_L1 l0 x10_1).length : Int)
        ·rw [if_pos c5] at H
         have c5b0 : decide (x16_2 < ((rd_L1 l0 x10_1).length : Int)) = true := decide_eq_true c5
         clear c5
         by_cases c6 : 0 ≤ x16_2
         ·rw [if_pos c6] at H
          have c6b0 : decide (0 ≤ x16_2) = true := decide_eq_true c6
          clear c6
          by_cases c7 : x16_2 < ((rd_L1 l0 x10_1).length : Int)
          ·rw [if_pos c7] at H
           have c7b0 : decide (x16_2 < ((rd_L1 l0 x10_1).length : Int)) = true := decide_eq_true c7
           clear c7
           replace H := Option.bind_eq_some_iff.mp H
           obtain ⟨t107, A80, H⟩ := H
           replace H : (if t107 = true then ((spec_l1In.f (wrap64 (x5_2 + (rd (rd_L1 l0 x10_1) x16_2))) 0 1).bind fun t108 => (if t108 = true then (spec_sgRows.l1 k2 (wrap64 (x5_2 + (rd (rd_L1 l0 x10_1) x16_2))) l0 (l0.length : Int) x10_1 (rd_L1 l0 x10_1) ((rd_L1 l0 x10_1).length : Int) (wrap64 (x16_2 + 1))) else (some false))) else (some false)) = some r := H
           have A8 := Aside0.mk A80
           clear A80
           by_cases c9 : t107 = true
           ·subst c9
            have H1 : ((spec_l1In.f (wrap64 (x5_2 + (rd (rd_L1 l0 x10_1) x16_2))) 0 1).bind fun t108 => (if t108 = true then (spec_sgRows.l1 k2 (wrap64 (x5_2 + (rd (rd_L1 l0 x10_1) x16_2))) l0 (l0.length : Int) x10_1 (rd_L1 l0 x10_1) ((rd_L1 l0 x10_1).length : Int) (wrap64 (x16_2 + 1))) else (some false))) = some r := by rw [if_pos rfl] at H; exact H
            clear H
            have H := H1
            clear H1
            replace H := Option.bind_eq_some_iff.mp H
            obtain ⟨t108, A100, H⟩ := H
            replace H : (if t108 = true then (spec_sgRows.l1 k2 (wrap64 (x5_2 + (rd (rd_L1 l0 x10_1) x16_2))) l0 (l0.length : Int) x10_1 (rd_L1 l0 x10_1) ((rd_L1 l0 x10_1).length : Int) (wrap64 (x16_2 + 1))) else (some false)) = some r := H
            have A10 := Aside0.mk A100
            clear A100
            by_cases c11 : t108 = true
            ·subst c11
             have H1 : (spec_sgRows.l1 k2 (wrap64 (x5_2 + (rd (rd_L1 l0 x10_1) x16_2))) l0 (l0.length : Int) x10_1 (rd_L1 l0 x10_1) ((rd_L1 l0 x10_1).length : Int) (wrap64 (x16_2 + 1))) = some r := by rw [if_pos rfl] at H; exact H
             clear H
             have H := H1
             clear H1
             have H' := Aside0.mk H
             clear H
             have p106 : 0 ≤ (x16_2 : Int) := of_decide_eq_true (by first | (with_reducible assumption) | assumption)
             have q106 : x16_2 < ((rd_L1 l0 x10_1).length : Int) := of_decide_eq_true (by first | (with_reducible assumption) | assumption)
             obtain ⟨ad106, e106, hx106_0⟩ := Kd.at_int HR105_0.out x16_2 p106 q106
             cases e106
             replace p106 := eq_true p106
             replace q106 := eq_true q106
             go_wp2_with (first | ((with_reducible refine gate_callee (f := 57) rfl ?_); refine goesL_ (some 21) rfl rfl Try.func57 (by kernel_rfl) rfl #[.int .i64 (rd (rd_L1 l0 x10_1) x16_2), .int .i64 (-1), .int .i64 1] rfl (by (try simp only [List.map_toArray, List.map_cons, List.map_nil]); first | done | rfl | (simp only [List.length_drop, List.length_take]; rfl)) ?_; (with_reducible refine (spec_l1In.calls (rd (rd_L1 l0 x10_1) x16_2) (-1) 1 true _ A8.out).mono ?_); rintro e w' ⟨rfl, ⟨nd, rfl⟩⟩; refine ⟨_, rfl, ?_⟩) | ((with_reducible refine gate_callee (f := 57) rfl ?_); refine goesL_ (some 27) rfl rfl Try.func57 (by kernel_rfl) rfl #[.int .i64 (wrap64 (x5_2 + (rd (rd_L1 l0 x10_1) x16_2))), .int .i64 0, .int .i64 1] rfl (by (try simp only [List.map_toArray, List.map_cons, List.map_nil]); first | done | rfl | (simp only [List.length_drop, List.length_take]; rfl)) ?_; (with_reducible refine (spec_l1In.calls (wrap64 (x5_2 + (rd (rd_L1 l0 x10_1) x16_2))) 0 1 true _ A10.out).mono ?_); rintro e w' ⟨rfl, ⟨nd, rfl⟩⟩; refine ⟨_, rfl, ?_⟩))
             go_roundg k2
             case measure => have := HK1.out; have := HK2.out; omega
             case rel => exact ⟨(wrap64 (x5_2 + (rd (rd_L1 l0 x10_1) x16_2))), (wrap64 (x16_2 + 1)), (by first | rfl | (simp; done) | (simp [*]; done)), (by first | rfl | (simp; done) | (simp [*]; done)), H', ⟨by have := HK1.out; have := HK2.out; omega⟩, by repeat (first | exact Drawn0.refl _ | apply Drawn0.step)⟩
            ·replace c11 := Bool.eq_false_iff.mpr c11
             subst c11
             have H1 : (some false) = some r := by rw [if_neg (show ¬ (false = true) by decide)] at H; exact H
             clear H
             have H := H1
             clear H1
             obtain rfl := Option.some.inj H
             have p106 : 0 ≤ (x16_2 : Int) := of_decide_eq_true (by first | (with_reducible assumption) | assumption)
             have q106 : x16_2 < ((rd_L1 l0 x10_1).length : Int) := of_decide_eq_true (by first | (with_reducible assumption) | assumption)
             obtain ⟨ad106, e106, hx106_0⟩ := Kd.at_int HR105_0.out x16_2 p106 q106
             cases e106
             replace p106 := eq_true p106
             replace q106 := eq_true q106
             go_wp2_with (first | ((with_reducible refine gate_callee (f := 57) rfl ?_); refine goesL_ (some 21) rfl rfl Try.func57 (by kernel_rfl) rfl #[.int .i64 (rd (rd_L1 l0 x10_1) x16_2), .int .i64 (-1), .int .i64 1] rfl (by (try simp only [List.map_toArray, List.map_cons, List.map_nil]); first | done | rfl | (simp only [List.length_drop, List.length_take]; rfl)) ?_; (with_reducible refine (spec_l1In.calls (rd (rd_L1 l0 x10_1) x16_2) (-1) 1 true _ A8.out).mono ?_); rintro e w' ⟨rfl, ⟨nd, rfl⟩⟩; refine ⟨_, rfl, ?_⟩) | ((with_reducible refine gate_callee (f := 57) rfl ?_); refine goesL_ (some 27) rfl rfl Try.func57 (by kernel_rfl) rfl #[.int .i64 (wrap64 (x5_2 + (rd (rd_L1 l0 x10_1) x16_2))), .int .i64 0, .int .i64 1] rfl (by (try simp only [List.map_toArray, List.map_cons, List.map_nil]); first | done | rfl | (simp only [List.length_drop, List.length_take]; rfl)) ?_; (with_reducible refine (spec_l1In.calls (wrap64 (x5_2 + (rd (rd_L1 l0 x10_1) x16_2))) 0 1 false _ A10.out).mono ?_); rintro e w' ⟨rfl, ⟨nd, rfl⟩⟩; refine ⟨_, rfl, ?_⟩))
             go_ret
             exact ⟨by first | rfl | (simp; done) | (simp [*]; done), by repeat (first | exact Drawn0.refl _ | apply Drawn0.step)⟩
           ·replace c9 := Bool.eq_false_iff.mpr c9
            subst c9
            have H1 : (some false) = some r := by rw [if_neg (show ¬ (false = true) by decide)] at H; exact H
            clear H
            have H := H1
            clear H1
            obtain rfl := Option.some.inj H
            have p106 : 0 ≤ (x16_2 : Int) := of_decide_eq_true (by first | (with_reducible assumption) | assumption)
            have q106 : x16_2 < ((rd_L1 l0 x10_1).length : Int) := of_decide_eq_true (by first | (with_reducible assumption) | assumption)
            obtain ⟨ad106, e106, hx106_0⟩ := Kd.at_int HR105_0.out x16_2 p106 q106
            cases e106
            replace p106 := eq_true p106
            replace q106 := eq_true q106
            go_wp2_with (first | ((with_reducible refine gate_callee (f := 57) rfl ?_); refine goesL_ (some 21) rfl rfl Try.func57 (by kernel_rfl) rfl #[.int .i64 (rd (rd_L1 l0 x10_1) x16_2), .int .i64 (-1), .int .i64 1] rfl (by (try simp only [List.map_toArray, List.map_cons, List.map_nil]); first | done | rfl | (simp only [List.length_drop, List.length_take]; rfl)) ?_; (with_reducible refine (spec_l1In.calls (rd (rd_L1 l0 x10_1) x16_2) (-1) 1 false _ A8.out).mono ?_); rintro e w' ⟨rfl, ⟨nd, rfl⟩⟩; refine ⟨_, rfl, ?_⟩))
            go_ret
            exact ⟨by first | rfl | (simp; done) | (simp [*]; done), by repeat (first | exact Drawn0.refl _ | apply Drawn0.step)⟩
          ·rw [if_neg c7] at H
           exact absurd H (by simp)
         ·rw [if_neg c6] at H
          exact absurd H (by simp)
        ·rw [if_neg c5] at H
         have c5b0 : decide (x16_2 < ((rd_L1 l0 x10_1).length : Int)) = false := decide_eq_false c5
         clear c5
         by_cases c12 : x5_2 = 1
         ·rw [if_pos c12] at H
          have c12b0 : (x5_2 == 1) = true := beq_iff_eq.mpr c12
          have c12b1 : (x5_2 != 1) = false := bne_eq_false_iff_eq.mpr c12
          clear c12
          have H' := Aside0.mk H
          clear H
          go_wp2
          go_roundg k2
          case measure => have := HK1.out; have := HK2.out; omega
          case rel => exact ⟨(wrap64 (x10_1 + 1)), (by first | rfl | (simp; done) | (simp [*]; done)), H', ⟨by have := HK1.out; have := HK2.out; omega⟩, by repeat (first | exact Drawn0.refl _ | apply Drawn0.step)⟩
         ·rw [if_neg c12] at H
          have c12b0 : (x5_2 == 1) = false := beq_eq_false_iff_ne.mpr c12
          have c12b1 : (x5_2 != 1) = true := bne_iff_ne.mpr c12
          obtain rfl := Option.some.inj H
          go_wp2
          go_ret
          exact ⟨by first | rfl | (simp; done) | (simp [*]; done), by repeat (first | exact Drawn0.refl _ | apply Drawn0.step)⟩
     ·rw [if_neg c4] at H
      exact absurd H (by simp)
    ·rw [if_neg c3] at H
     exact absurd H (by simp)
   ·rw [if_neg c2] at H
    have c2b0 : decide (x10_1 < (l0.length : Int)) = false := decide_eq_false c2
    clear c2
    obtain rfl := Option.some.inj H
    go_wp2
    go_ret
    exact ⟨by first | rfl | (simp; done) | (simp [*]; done), by repeat (first | exact Drawn0.refl _ | apply Drawn0.step)⟩

end Go.Proofs.Ytbihfdadnkmckaa.P
