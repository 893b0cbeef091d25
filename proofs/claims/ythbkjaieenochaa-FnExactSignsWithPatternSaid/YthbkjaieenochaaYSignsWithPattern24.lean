/- Texts of one chain, in build order. -/
import Derived.Test.YthbkjaieenochaaYSignsWithPattern23
namespace Go.Proofs.Ythbkjaieenochaa
open Go.RowKit Go.Proofs.YthbkjaieenochaaW.PrintWords Go.Proofs.YthbkjaieenochaaW.PrintLast Go.Proofs.YthbkjaieenochaaW.PrintMore
set_option linter.unusedVariables false
set_option linter.unusedSimpArgs false

def bitI (b : Bool) : Int := if b then 1 else 0
theorem impl_bit.calls' (b : Bool) (w : World) :
  Calls Try.prog 84 #[.bool b] w fun e w' => e = .returned (.int .i64 (bitI b)) ∧ w = w' := by
 cases b with
 | true =>
  go_enter Try.func84, Try.ntmps84
  go_wp2
  go_ret
  exact ⟨rfl, rfl⟩
 | false =>
  go_enter Try.func84, Try.ntmps84
  go_wp2
  go_ret
  exact ⟨rfl, rfl⟩
/-- The edges across and down, at places, and as tables. -/
def acF (m : List (List Int)) (i j : Nat) : Int := bitI ((ps (m.getD i []) j + i + j) % 2 == 0)
def dnF (m : List (List Int)) (i j : Nat) : Int := bitI ((ps (colL m j) i + i + j) % 2 == 1)
def acM (m : List (List Int)) : List (List Int) := tableL (acF m) m.length (m.length + 1)
def dnM (m : List (List Int)) : List (List Int) := tableL (dnF m) (m.length + 1) m.length

set_option maxHeartbeats 4000000 in
theorem loops_1.calls (l0 : List (List Int)) (i j b : Nat) (A0 : Option Addr) (c0 : Nat) (W : World) (hs : isSign l0 = true) (hi : i < l0.length) (hj : j < l0.length + 1)
  (hr0 : Kd.C (Kd.slice 3 (Kd.int .i64)) W A0 l0.length l0) (hc0 : l0.length ≤ c0) (hx0 : W.cell? ⟨b, 0, none⟩ = some (.slice A0 l0.length c0)) :
  Gives Try.prog 83 #[.int .i64 i, .int .i64 j, .pointer (some ⟨b, 0, none⟩)] W (.int .i64 (acF l0 i j)) := by
 unfold Gives
 obtain ⟨h1, h2, h3, h4⟩ := isSign_facts hs
 obtain ⟨ad, A1, c1, e0, hx, hc1, hrow⟩ := rowsAt hr0 i hi
 cases e0
 have hrl := h3 i hi
 have hsr := sumW_take (h4 i hi).1 (j := j) (by omega)
 have hps := alt_ps (h4 i hi).1 (j := j) (by omega)
 have hsum := fun W' hb => impl_sum.calls' A1 c1 ((l0.getD i []).take j) W' (Kd.C_below (Kd.C_take hrow (by omega)) hb)
 rw [hsr] at hsum
 have htl : ((l0.getD i []).take j).length = j := by rw [List.length_take]; omega
 rw [htl] at hsum
 have HK := Aside0.mk (show acF l0 i j = bitI ((ps (l0.getD i []) j + i + j) % 2 == 0) from rfl)
 obtain ⟨row, hrw⟩ : ∃ r, r = l0.getD i [] := ⟨_, rfl⟩
 rw [← hrw] at hx hsum HK hps hc1 hrl
 obtain ⟨p, hp⟩ : ∃ x, x = ps row j := ⟨_, rfl⟩
 rw [← hp] at hsum HK hps
 have hiz : (i : Int) < (l0.length : Int) := by omega
 have hjc : j ≤ c1 := by omega
 have HB0 := Aside0.mk (Below.refl W.heap.size W)
 obtain ⟨hp0, hp1⟩ := hps
 have hi6 : (i : Int) ≤ 10 := by omega
 have hj6 : (j : Int) ≤ 10 := by omega
 have hbit := fun W' => impl_bit.calls' ((p + i + j) % 2 == 0) W'
 rw [HK.out]
 clear hrw hp hrow hr0 h1 h3 h4 hsr htl hs hrl HK
 go_enter Try.func83, Try.ntmps83
 go_wp2_with (first | (go_at_call 85; refine (hsum _ HB0.out).mono ?_; rintro e w1 ⟨rfl, rfl⟩) | (go_at_call 84; refine (hbit _).mono ?_; rintro e w1 ⟨rfl, rfl⟩))
 go_ret
 exact ⟨rfl, HB0.out⟩
set_option maxHeartbeats 4000000 in
theorem loops_2.calls (l0 : List (List Int)) (i j b : Nat) (A0 : Option Addr) (c0 : Nat) (W : World) (hs : isSign l0 = true) (hi : i < l0.length + 1) (hj : j < l0.length)
  (hr0 : Kd.C (Kd.slice 3 (Kd.int .i64)) W A0 l0.length l0) (hc0 : l0.length ≤ c0) (hx0 : W.cell? ⟨b, 0, none⟩ = some (.slice A0 l0.length c0)) :
  Gives Try.prog 86 #[.int .i64 i, .int .i64 j, .pointer (some ⟨b, 0, none⟩)] W (.int .i64 (dnF l0 i j)) := by
 unfold Gives
 obtain ⟨h1, h2, h3, h4⟩ := isSign_facts hs
 have hcl := colL_length l0 j
 have hsc := sumW_take (h4 j hj).2 (j := i) (by omega)
 have hpc := alt_ps (h4 j hj).2 (j := i) (by omega)
 have hcol := fun W' hb => impl_column.calls' A0 c0 l0 j W' (Kd.C_below hr0 hb) (by omega) (fun k hk => by rw [h3 k hk]; exact hj)
 have HK := Aside0.mk (show dnF l0 i j = bitI ((ps (colL l0 j) i + i + j) % 2 == 1) from rfl)
 have HC := Aside0.mk (show i ≤ (colL l0 j).length by omega)
 obtain ⟨q, hq⟩ : ∃ x, x = ps (colL l0 j) i := ⟨_, rfl⟩
 rw [← hq] at hsc HK hpc
 have HB0 := Aside0.mk (Below.refl W.heap.size W)
 have HSC := Aside0.mk hsc
 obtain ⟨hq0, hq1⟩ := hpc
 have hi6 : (i : Int) ≤ 10 := by omega
 have hj6 : (j : Int) ≤ 10 := by omega
 have hbit := fun W' => impl_bit.calls' ((q + i + j) % 2 == 1) W'
 rw [HK.out]
 clear hq hr0 h1 h3 h4 hs hcl hsc HK
 go_enter Try.func86, Try.ntmps86
 go_wp2_with (first | (go_at_call 82; refine (hcol _ HB0.out).mono ?_; rintro e w2 ⟨v, rfl, hR, hb⟩; have HB2 := Aside0.mk hb; obtain ⟨A2, c2, rfl⟩ := Kd.R_slice hR; have hq := Kd.R_reads' hR; have hsum2 := impl_sum.calls' A2 c2 ((colL l0 j).take i) w2 (Kd.C_take hq.2.2 HC.out); rw [HSC.out, List.length_take, Nat.min_eq_left HC.out] at hsum2; have hcc := hq.2.1; have hic := HC.out; have hicc : i ≤ c2 := (by omega); clear hR hb hq) | (go_at_call 85; refine hsum2.mono ?_; rintro e w1 ⟨rfl, rfl⟩) | (go_at_call 84; refine (hbit _).mono ?_; rintro e w1 ⟨rfl, rfl⟩))
 go_ret
 exact ⟨rfl, HB2.out⟩
def impl_loops.f (l0 : List (List Int)) : Option (Int × List (List Int) × List (List Int)) := if isSign l0 = true then some ((l0.length : Int), acM l0, dnM l0) else none
theorem blk_newA {w : World} {o : Obj} {g : Nat} (h : g = w.heap.size) : (w.alloc o).heap[g]? = some o := h ▸ blk_new w o
/-- Two tables, one made behind the other, share no block. -/
theorem two_S {W W' : World} {B B' : Nat} {A1 A2 : Option Addr} {n1 n2 c1 c2 : Nat} {T U : List (List Int)} (h : Kd.S (Kd.slice 3 (Kd.int .i64)) 28 W B (fun _ => True) (.slice A1 n1 c1) T) (hb : Below W.heap.size W W') (k : Kd.S (Kd.slice 3 (Kd.int .i64)) 28 W' B' (fun _ => True) (.slice A2 n2 c2) U) (hB : B ≤ B') (hW : W.heap.size ≤ B') :
  Kd.S (Kd.slice 3 (Kd.int .i64)) 28 W' B (fun k_ => some k_ ≠ (Value.slice A2 n2 c2).ownBlock) (.slice A1 n1 c1) T ∧
   Kd.S (Kd.slice 3 (Kd.int .i64)) 28 W' B (fun k_ => some k_ ≠ (Value.slice A1 n1 c1).ownBlock) (.slice A2 n2 c2) U := by
 have h1 := Kd.S_bound h
 refine ⟨Kd.S_mono (Kd.S_below h1 hb) (fun q hq e => ?_), Kd.S_lower (Kd.S_mono (Kd.S_bound k) (fun q hq e => ?_)) hB⟩
 ·have := Kd.S_base k q e.symm
  have := hq.2.2.1
  omega
 ·have := Kd.S_lt h q e.symm
  have := hq.2.1
  omega
theorem S_far3 {α : Type} {d : Kd α} {e B b g : Nat} {W : World} {ok : Nat → Prop} {v : Value} {xs : List α} (h : Kd.S d e W B ok v xs) (hb : b ≤ B) (hg : g < B) (u0 u1 u2 : Value) : Kd.S d e (((W.setCell ⟨g, 0, none⟩ u0).setCell ⟨g, 1, none⟩ u1).setCell ⟨g, 2, none⟩ u2) b ok v xs := by
 have h1 := Kd.S_mono (ok' := fun k => ok k ∧ k ≠ g) (Kd.S_bound h) (fun k hk => ⟨hk.1, by have := hk.2.1; omega⟩)
 exact Kd.S_mono (Kd.S_lower (Kd.S_far (p := ⟨g, 2, none⟩) (Kd.S_far (p := ⟨g, 1, none⟩) (Kd.S_far (p := ⟨g, 0, none⟩) h1 (fun _ hk => hk.2) _) (fun _ hk => hk.2) _) (fun _ hk => hk.2) _) hb) (fun _ hk => hk.1)
set_option maxHeartbeats 4000000 in
theorem impl_loops.calls (A0 : Option Addr) (c0 : Nat) (l0 : List (List Int)) (r1 : Int) (r2 : List (List Int)) (r3 : List (List Int)) (w : World) (hr0 : Kd.C (Kd.slice 3 (Kd.int .i64)) w A0 l0.length l0) (hc0 : l0.length ≤ c0) (h : impl_loops.f l0 = some (r1, r2, r3)) :
  Calls Try.prog 46 #[.slice A0 l0.length c0] w fun e w' => ∃ v1_ v2_ : Value, e = .returned (.agg #[.int .i64 r1, v1_, v2_]) ∧ Kd.S (Kd.slice 3 (Kd.int .i64)) 28 w' w.heap.size (fun k_ => some k_ ≠ (v2_ : Value).ownBlock) v1_ r2 ∧ Kd.S (Kd.slice 3 (Kd.int .i64)) 28 w' w.heap.size (fun k_ => some k_ ≠ (v1_ : Value).ownBlock) v2_ r3 ∧ Below w.heap.size w w' := by
 unfold impl_loops.f at h
 by_cases hs : isSign l0 = true
 case neg => rw [if_neg hs] at h; cases h
 rw [if_pos hs] at h
 simp only [Option.some.injEq, Prod.mk.injEq] at h
 obtain ⟨rfl, rfl, rfl⟩ := h
 have eg1 : ∀ args w, (callFunc 83 args).run Try.prog w = .ok (.enter 83 args) w := enters_of Try.func83 (by kernel_rfl) rfl
 have eg2 : ∀ args w, (callFunc 86 args).run Try.prog w = .ok (.enter 86 args) w := enters_of Try.func86 (by kernel_rfl) rfl
 obtain ⟨W1, hW1⟩ : ∃ W1, W1 = (w.alloc (.cells #[.slice A0 l0.length c0] 22)).alloc (.cells #[.int .i64 0, .slice none 0 0, .slice none 0 0] 50) := ⟨_, rfl⟩
 have hB1 : Below w.heap.size w W1 := by rw [hW1]; exact below_alloc (below_alloc (Below.refl _ _) _) _
 have hx : W1.cell? ⟨w.heap.size, 0, none⟩ = some (.slice A0 l0.length c0) := by rw [hW1]; exact blk_cell (blk_alloc (blk_newA rfl) _) 0
 have hy : W1.heap[w.heap.size + 1]? = some (.cells #[.int .i64 0, .slice none 0 0, .slice none 0 0] 50 (0, 0)) := by rw [hW1]; exact blk_newA (by simp)
 have h2 := (isSign_facts hs).2.1
 have hC1 := Kd.C_below hr0 hB1
 have HW1 := Aside0.mk hW1
 have HB1 := Aside0.mk hB1
 have HY := Aside0.mk hy
 have HN1 := Aside0.mk (show ((l0.length : Int) + 1) = ((l0.length + 1 : Nat) : Int) by omega)
 have HSZ := Aside0.mk (show W1.heap.size = w.heap.size + 1 + 1 by rw [hW1]; simp)
 have HT1 := Aside0.mk (impl_tableC.calls 83 #[.pointer (some ⟨w.heap.size, 0, none⟩)] (acF l0) l0.length (l0.length + 1) W1 (by omega) (by omega) eg1
  (fun i j W hi hj hb => loops_1.calls l0 i j _ A0 c0 W hs hi hj (Kd.C_below hC1 hb) hc0 (pw_cell_below hb hx)))
 have HT2 := Aside0.mk (fun (w2 : World) (hb2 : Below W1.heap.size W1 w2) => impl_tableC.calls 86 #[.pointer (some ⟨w.heap.size, 0, none⟩)] (dnF l0) (l0.length + 1) l0.length w2 (by omega) (by omega) eg2
  (fun i j W hi hj hb => loops_2.calls l0 i j _ A0 c0 W hs hi hj (Kd.C_below (Kd.C_below hC1 hb2) hb) hc0 (pw_cell_below hb (pw_cell_below hb2 hx))))
 have hn6 : (l0.length : Int) ≤ 10 := by omega
 clear hr0 hs hB1 hC1 hW1 hy
 go_enter Try.func46, Try.ntmps46
 go_wp2_with (first
  | (go_at_call 54; rw [← HW1.out]; have h_ := HT1.out; rw [← HN1.out] at h_; refine h_.mono ?_; clear h_; rintro e w2 ⟨v1, rfl, hS1, hb1⟩; obtain ⟨A1, c1, rfl⟩ := Kd.R_slice (Kd.S_R hS1); have HS1 := Aside0.mk hS1; have HB2 := Aside0.mk hb1; have HT3 := Aside0.mk (HT2.out w2 hb1); clear HT1 hS1 hb1)
  | (go_at_call 54; have h_ := HT3.out; rw [← HN1.out] at h_; refine h_.mono ?_; clear h_; rintro e w3 ⟨v2, rfl, hS2, hb2⟩; obtain ⟨A2, c2, rfl⟩ := Kd.R_slice (Kd.S_R hS2); have HS2 := Aside0.mk hS2; have HB3 := Aside0.mk hb2; have HY3 := Aside0.mk (blk_below (blk_below HY.out HB2.out) hb2); clear HT3 hS2 hb2; have hk0 := blk_cell HY3.out 0; have hk1 := blk_cell HY3.out 1; have hk2 := blk_cell HY3.out 2; have hf0 := blk_frozen HY3.out 0; have hf1 := blk_frozen HY3.out 1; have hf2 := blk_frozen HY3.out 2))
 refine bodyPost_ret (results_cell_row rfl _ _ (w.heap.size + 1) 50 #[.int .i64 (l0.length : Int), .slice A1 (acM l0).length c1, .slice A2 (dnM l0).length c2] (0, 0) _ rfl (by
  refine blk_put (cs := #[.int .i64 (l0.length : Int), .slice A1 (acM l0).length c1, .slice none 0 0]) ?_ 2 _ rfl
  refine blk_put (cs := #[.int .i64 (l0.length : Int), .slice none 0 0, .slice none 0 0]) ?_ 1 _ rfl
  refine blk_put (cs := #[.int .i64 0, .slice none 0 0, .slice none 0 0]) ?_ 0 _ rfl
  exact HY3.out) Try.underlying50 rfl (by kernel_rfl)) rfl ?_
 obtain ⟨k1, k2⟩ := two_S HS1.out HB3.out HS2.out HB2.out.size (Nat.le_refl _)
 have hz := HSZ.out
 exact ⟨_, _, rfl, S_far3 k1 (by omega) (by omega) _ _ _, S_far3 k2 (by omega) (by omega) _ _ _, Below.setCell (Below.setCell (Below.setCell (below_step (below_step HB1.out HB2.out) HB3.out) (by show _ ≤ w.heap.size + 1; omega) _) (by show _ ≤ w.heap.size + 1; omega) _) (by show _ ≤ w.heap.size + 1; omega) _⟩
end Go.Proofs.Ythbkjaieenochaa

namespace Go.Proofs.Ythbkjaieenochaa.LN
set_option linter.unusedVariables false
set_option linter.unusedSimpArgs false

/-- Is the edge of a point at a side drawn? a: the edges across, d: the edges down. -/
def drw (a d : Int → Int → Int) (i j s : Int) : Bool := if s = 0 then d i j == 1 else if s = 1 then a i (j + 1) == 1 else if s = 2 then d (i + 1) j == 1 else a i j == 1
/-- The side at which a line that comes in at s goes out. -/
def exq (a d : Int → Int → Int) (i j s : Int) : Int := if s ≠ 0 ∧ drw a d i j 0 = true then 0 else if s ≠ 1 ∧ drw a d i j 1 = true then 1 else if s ≠ 2 ∧ drw a d i j 2 = true then 2 else 3
def mi (i e : Int) : Int := if e = 0 then i - 1 else if e = 2 then i + 1 else i
def mj (j e : Int) : Int := if e = 1 then j + 1 else if e = 3 then j - 1 else j
def op (s : Int) : Int := (s + 2) % 4
def ing (n i j : Int) : Bool := decide (0 ≤ i) && decide (i < n) && (decide (0 ≤ j) && decide (j < n))
theorem ing_iff {n i j : Int} : ing n i j = true ↔ 0 ≤ i ∧ i < n ∧ 0 ≤ j ∧ j < n := by
 unfold ing; simp only [Bool.and_eq_true, decide_eq_true_eq]; omega
def b2 (b : Bool) : Nat := if b then 1 else 0
/-- Each point has two edges drawn. -/
def Good (a d : Int → Int → Int) (n : Int) : Prop := ∀ i j, ing n i j = true → b2 (drw a d i j 0) + b2 (drw a d i j 1) + b2 (drw a d i j 2) + b2 (drw a d i j 3) = 2
abbrev St := Int × Int × Int
def step (a d : Int → Int → Int) (x : St) : St := (mi x.1 (exq a d x.1 x.2.1 x.2.2), mj x.2.1 (exq a d x.1 x.2.1 x.2.2), op (exq a d x.1 x.2.1 x.2.2))
def bck (a d : Int → Int → Int) (y : St) : St := (mi y.1 y.2.2, mj y.2.1 y.2.2, exq a d (mi y.1 y.2.2) (mj y.2.1 y.2.2) (op y.2.2))
/-- A point that is entered at an edge that is drawn. -/
def okS (a d : Int → Int → Int) (n : Int) (x : St) : Prop := ing n x.1 x.2.1 = true ∧ 0 ≤ x.2.2 ∧ x.2.2 ≤ 3 ∧ drw a d x.1 x.2.1 x.2.2 = true
/-- The points of a line, the side at which it leaves the last one, and whether it has come back to f. -/
def wy (a d : Int → Int → Int) (n : Int) (f : St) : Nat → St → Option (List (List Int) × Int × Bool)
 | 0, _ => none
 | k + 1, x => if ing n (step a d x).1 (step a d x).2.1 = true then (if step a d x = f then some ([[x.1, x.2.1]], exq a d x.1 x.2.1 x.2.2, true) else (wy a d n f k (step a d x)).map fun r => ([x.1, x.2.1] :: r.1, r.2)) else some ([[x.1, x.2.1]], exq a d x.1 x.2.1 x.2.2, false)

theorem four {s : Int} (h0 : 0 ≤ s) (h1 : s ≤ 3) : s = 0 ∨ s = 1 ∨ s = 2 ∨ s = 3 := by omega
theorem exq_4 (a d : Int → Int → Int) (i j s : Int) : 0 ≤ exq a d i j s ∧ exq a d i j s ≤ 3 := by
 unfold exq; repeat' split
 all_goals omega
theorem op_4 {e : Int} (h0 : 0 ≤ e) (h1 : e ≤ 3) : 0 ≤ op e ∧ op e ≤ 3 ∧ op (op e) = e := by
 unfold op; omega
/-- The side at which the line goes out: the other one that is drawn. -/
theorem exq_ok {a d : Int → Int → Int} {n i j s : Int} (hg : Good a d n) (hi : ing n i j = true) (h0 : 0 ≤ s) (h1 : s ≤ 3) (hd : drw a d i j s = true) :
  exq a d i j s ≠ s ∧ drw a d i j (exq a d i j s) = true ∧ exq a d i j (exq a d i j s) = s := by
 have h := hg i j hi
 unfold exq
 cases e0 : drw a d i j 0 <;> cases e1 : drw a d i j 1 <;> cases e2 : drw a d i j 2 <;> cases e3 : drw a d i j 3 <;> rw [e0, e1, e2, e3] at h <;> simp [b2] at h <;>
  rcases four h0 h1 with rfl | rfl | rfl | rfl <;> simp_all
/-- The edge by which a point is left is the one by which the next is entered. -/
theorem drw_next (a d : Int → Int → Int) (i j e : Int) (h0 : 0 ≤ e) (h1 : e ≤ 3) : drw a d (mi i e) (mj j e) (op e) = drw a d i j e := by
 rcases four h0 h1 with rfl | rfl | rfl | rfl <;> simp [drw, mi, mj, op]
theorem mij_back (i j e : Int) (h0 : 0 ≤ e) (h1 : e ≤ 3) : mi (mi i e) (op e) = i ∧ mj (mj j e) (op e) = j := by
 rcases four h0 h1 with rfl | rfl | rfl | rfl <;> simp [mi, mj, op] <;> omega
theorem step_ok {a d : Int → Int → Int} {n : Int} (hg : Good a d n) {x : St} (hx : okS a d n x) (hi : ing n (step a d x).1 (step a d x).2.1 = true) : okS a d n (step a d x) ∧ bck a d (step a d x) = x := by
 obtain ⟨i, j, s⟩ := x
 obtain ⟨h1, h2, h3, h4⟩ := hx
 simp only at h1 h2 h3 h4
 obtain ⟨k1, k2, k3⟩ := exq_ok hg h1 h2 h3 h4
 obtain ⟨e0, e1⟩ := exq_4 a d i j s
 obtain ⟨o0, o1, o2⟩ := op_4 e0 e1
 obtain ⟨m1, m2⟩ := mij_back i j _ e0 e1
 refine ⟨⟨hi, o0, o1, ?_⟩, ?_⟩
 ·exact (drw_next a d i j _ e0 e1).trans k2
 ·unfold bck step
  simp only
  rw [m1, m2, o2, k3]

/-- All states of n rows. -/
def univ (n : Nat) : List St := (List.range n).flatMap fun (i : Nat) => (List.range n).flatMap fun (j : Nat) => (List.range 4).map fun (s : Nat) => ((i : Int), (j : Int), (s : Int))
theorem mem_univ {n : Nat} {a d : Int → Int → Int} {x : St} (h : okS a d (n : Int) x) : x ∈ univ n := by
 obtain ⟨i, j, s⟩ := x
 obtain ⟨h1, h2, h3, _⟩ := h
 obtain ⟨g1, g2, g3, g4⟩ := ing_iff.1 h1
 simp only at g1 g2 g3 g4 h2 h3
 unfold univ
 simp only [List.mem_flatMap, List.mem_range, List.mem_map]
 exact ⟨i.toNat, by omega, j.toNat, by omega, s.toNat, by omega, by rw [Int.toNat_of_nonneg g1, Int.toNat_of_nonneg g3, Int.toNat_of_nonneg h2]⟩
theorem univ_len {n : Nat} (h : n ≤ 6) : (univ n).length ≤ 144 := by
 have e : n = 0 ∨ n = 1 ∨ n = 2 ∨ n = 3 ∨ n = 4 ∨ n = 5 ∨ n = 6 := by omega
 rcases e with rfl | rfl | rfl | rfl | rfl | rfl | rfl <;> decide +kernel
theorem len_le {α : Type} [DecidableEq α] : ∀ (l U : List α), l.Nodup → (∀ x ∈ l, x ∈ U) → l.length ≤ U.length
 | [], U, _, _ => Nat.zero_le _
 | a :: l, U, hn, hs => by
  have ha := hs a (List.mem_cons_self ..)
  obtain ⟨h1, h2⟩ := List.nodup_cons.1 hn
  have h3 := len_le l (U.erase a) h2 (fun x hx => (List.mem_erase_of_ne (show x ≠ a from fun e => h1 (by rw [← e]; exact hx))).2 (hs x (List.mem_cons_of_mem _ hx)))
  rw [List.length_erase_of_mem ha] at h3
  have h4 : 0 < U.length := List.length_pos_of_mem ha
  simp only [List.length_cons]
  omega
/-- A line ends. V: the states that have been, the last one first. -/
theorem wy_ends {a d : Int → Int → Int} {n : Nat} (hg : Good a d (n : Int)) (f : St) : ∀ (k : Nat) (V : List St) (x : St), V.Nodup → (∀ y ∈ V, okS a d n y) → okS a d n x → x ∉ V → (∀ y, y = x ∨ y ∈ V → y = f ∨ ∃ z ∈ V, step a d z = y) → (univ n).length ≤ V.length + k → ∃ r, wy a d n f k x = some r := by
 intro k
 induction k with
 | zero =>
  intro V x hV hok hx hxV hch hlen
  have := len_le (x :: V) (univ n) (List.nodup_cons.2 ⟨hxV, hV⟩) (fun y hy => (List.mem_cons.1 hy).elim (fun e => e ▸ mem_univ hx) (fun h => mem_univ (hok y h)))
  simp only [List.length_cons] at this
  omega
 | succ k ih =>
  intro V x hV hok hx hxV hch hlen
  rw [wy]
  by_cases hi : ing n (step a d x).1 (step a d x).2.1 = true
  ·rw [if_pos hi]
   by_cases hf : step a d x = f
   ·rw [if_pos hf]; exact ⟨_, rfl⟩
   ·rw [if_neg hf]
    obtain ⟨s1, s2⟩ := step_ok hg hx hi
    have hnew : step a d x ∉ x :: V := by
     intro hm
     have hm' : step a d x = x ∨ step a d x ∈ V := List.mem_cons.1 hm
     rcases hch _ hm' with e | ⟨z, hz, e⟩
     ·exact hf e
     ·have hzo := hok z hz
      have hz2 := (step_ok hg hzo (by rw [e]; exact hi)).2
      rw [e, s2] at hz2
      exact hxV (hz2 ▸ hz)
    obtain ⟨r, hr⟩ := ih (x :: V) (step a d x) (List.nodup_cons.2 ⟨hxV, hV⟩) (fun y hy => (List.mem_cons.1 hy).elim (fun e => e ▸ hx) (hok y)) s1 hnew (fun y hy => by
     rcases hy with e | hy
     ·exact .inr ⟨x, List.mem_cons_self .., e.symm⟩
     ·rcases hch y (List.mem_cons.1 hy) with e | ⟨z, hz, e⟩
      ·exact .inl e
      ·exact .inr ⟨z, List.mem_cons_of_mem _ hz, e⟩) (by simp only [List.length_cons]; omega)
    exact ⟨_, by rw [hr]; rfl⟩
  ·rw [if_neg hi]; exact ⟨_, rfl⟩
theorem wy_some {a d : Int → Int → Int} {n : Nat} (hn : n ≤ 6) (hg : Good a d (n : Int)) (x : St) (hx : okS a d n x) : ∃ r, wy a d n x 144 x = some r :=
 wy_ends hg x 144 [] x List.nodup_nil (by simp) hx (by simp) (fun y hy => by rcases hy with e | h; exact .inl e; simp at h) (by have := univ_len hn; simpa using this)
/-- What a line is: all its points lie in the square; there are at most as many as rounds; the side at which it goes out is drawn, and where it hasn't come back it leads out of the square. -/
theorem wy_what {a d : Int → Int → Int} {n : Nat} (hg : Good a d (n : Int)) (f : St) : ∀ (k : Nat) (x : St) (r : List (List Int) × Int × Bool), okS a d n x → wy a d n f k x = some r →
  r.1.length ≤ k ∧ (∀ p ∈ r.1, ∃ i j : Int, p = [i, j] ∧ ing n i j = true) ∧ (∃ i j : Int, r.1.getLast? = some [i, j] ∧ ing n i j = true ∧ 0 ≤ r.2.1 ∧ r.2.1 ≤ 3 ∧ drw a d i j r.2.1 = true ∧ (r.2.2 = false → ing n (mi i r.2.1) (mj j r.2.1) = false)) := by
 intro k
 induction k with
 | zero => intro x r _ h; simp [wy] at h
 | succ k ih =>
  intro x r hx h
  obtain ⟨i, j, s⟩ := x
  rw [wy] at h
  obtain ⟨e0, e1⟩ := exq_4 a d i j s
  obtain ⟨x1, x2, x3, x4⟩ := hx
  simp only at x1 x2 x3 x4
  obtain ⟨k1, k2, _⟩ := exq_ok hg x1 x2 x3 x4
  by_cases hi : ing n (step a d (i, j, s)).1 (step a d (i, j, s)).2.1 = true
  ·rw [if_pos hi] at h
   by_cases hf : step a d (i, j, s) = f
   ·rw [if_pos hf] at h
    obtain rfl := Option.some.inj h
    exact ⟨by simp, fun p hp => ⟨i, j, by simpa using hp, x1⟩, i, j, rfl, x1, e0, e1, k2, fun h => by simp at h⟩
   ·rw [if_neg hf] at h
    obtain ⟨q, hq, rfl⟩ := Option.map_eq_some_iff.1 h
    obtain ⟨h1, h2, i2, j2, h3, h4⟩ := ih _ q (step_ok hg ⟨x1, x2, x3, x4⟩ hi).1 hq
    refine ⟨by simp only [List.length_cons]; omega, fun p hp => ?_, i2, j2, ?_, h4⟩
    ·rcases List.mem_cons.1 hp with e | e
     ·exact ⟨i, j, e, x1⟩
     ·exact h2 p e
    ·cases hq1 : q.1 with
     | nil => rw [hq1] at h3; simp at h3
     | cons u v => rw [hq1] at h3; rw [List.getLast?_cons_cons]; exact h3
  ·rw [if_neg hi] at h
   obtain rfl := Option.some.inj h
   refine ⟨by simp, fun p hp => ⟨i, j, by simpa using hp, x1⟩, i, j, rfl, x1, e0, e1, k2, fun _ => ?_⟩
   exact Bool.not_eq_true _ ▸ hi
end Go.Proofs.Ythbkjaieenochaa.LN
