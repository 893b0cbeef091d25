/- Texts of one chain, in build order. -/
import Derived.Test.YthbkjaieenochaaYCountClosed2
namespace Go.Proofs.Ythbkjaieenochaa.Law
open Go.RowKit Go.Proofs.Ythbkjaieenochaa Go.Proofs.Ythbkjaieenochaa.P Go.Proofs.Ythbkjaieenochaa.L Go.Proofs.YthbkjaieenochaaW.PrintWords Go.Proofs.YthbkjaieenochaaW.PrintLast Go.Proofs.YthbkjaieenochaaW.PrintMore
set_option linter.unusedVariables false
set_option linter.unusedSimpArgs false

set_option maxHeartbeats 8000000 in
set_option maxRecDepth 100000 in
theorem walkCountClosed (A : Option Addr) (cap : Nat) (l : List (List Int)) (r : Int) (b : Bool) (W : World) (h : RowsIn W A l.length cap l) (hl : fewRows l) (t : Int) (ht : ¬ t < 0) (k0 : Nat) (hsz : laws_szIntSS.f k0 l 1048576 = some t)
  (hspec : ∀ (W' : World) (A' : Option Addr) (c' : Nat), Kd.C (Kd.slice 3 (Kd.int .i64)) W' A' l.length l → l.length ≤ c' → Calls Try.prog 26 #[.slice A' l.length c'] W' fun e w' => e = .returned (.tuple #[.int .i64 r, .bool b]) ∧ Below W'.heap.size W' w')
  (himpl : ∀ (W' : World) (A' : Option Addr) (c' : Nat), Kd.C (Kd.slice 3 (Kd.int .i64)) W' A' l.length l → l.length ≤ c' → Calls Try.prog 27 #[.slice A' l.length c'] W' fun e w' => e = .returned (.tuple #[.int .i64 r, .bool b]) ∧ Below W'.heap.size W' w') :
  Calls Try.prog 7 #[.slice A l.length cap] W fun e w' => e = .returned (.bool true) ∧ Below W.heap.size W w' := by
 have HSP := Aside0.mk hspec
 have HIM := Aside0.mk himpl
 have HB := Aside0.mk (Below.refl W.heap.size W)
 have htd : decide (t < 0) = false := decide_eq_false ht
 obtain ⟨ke, hke⟩ := (eqIntSS l hl.ok).rounds
 have HSZ := Aside0.mk (fun W' hb => laws_szIntSS.calls k0 A cap l 1048576 t W' (Kd.C_below h.read hb) h.le hsz)
 have HTO := Aside0.mk (fun W' hb => laws_toIntSS.calls A cap l l W' (Kd.C_below h.read hb) h.le (toIntSS_eq l hl.ok))
 have HEL := Aside0.mk (fun W' A0 c0 A1 c1 h0 g0 h1 g1 => laws_eqIntSS.calls ke A0 c0 l A1 c1 l true W' h0 g0 h1 g1 hke)
 clear h hl ht hsz hspec himpl hke
 go_enter Try.func7, Try.ntmps7
 go_wp2_with (first
  | (go_at_call 15; refine (HSZ.out _ HB.out).mono ?_; rintro e w1 ⟨rfl, hd⟩; have hb := hd.below; clear hd; (try (have n_ := Aside0.mk (HX.out.below hb); clear HX; have HX := n_)); (try (have n_ := Aside0.mk (HT.out.below hb); clear HT; have HT := n_)); (have n_ := Aside0.mk (below_step HB.out hb)); clear HB; have HB := n_; clear hb)
  | (go_at_call 17; refine (HTO.out _ HB.out).mono ?_; rintro e w1 ⟨v, rfl, hS, hb⟩; have ho := Own.new hS HB.out.size; clear hS; obtain ⟨Av, cv, rfl, hcv⟩ := ho.slice; (try clear HT HTc); (try (have n_ := Aside0.mk (HX.out.below hb); clear HX; have HX := n_)); (try (have n_ := Aside0.mk (HT.out.below hb); clear HT; have HT := n_)); (have n_ := Aside0.mk (below_step HB.out hb)); clear HB; have HB := n_; clear hb; have HT := Aside0.mk ho; have HTc := Aside0.mk hcv; clear ho hcv)
  | (go_at_call 26; refine (HSP.out _ _ _ HT.out.reads HTc.out).mono ?_; rintro e w1 ⟨rfl, hb⟩; clear HT HTc; (try (have n_ := Aside0.mk (HX.out.below hb); clear HX; have HX := n_)); (try (have n_ := Aside0.mk (HT.out.below hb); clear HT; have HT := n_)); (have n_ := Aside0.mk (below_step HB.out hb)); clear HB; have HB := n_; clear hb)
  | (go_at_call 27; refine (HIM.out _ _ _ HT.out.reads HTc.out).mono ?_; rintro e w1 ⟨rfl, hb⟩; have HX := HT; have HXc := HTc; clear HT HTc; (try (have n_ := Aside0.mk (HX.out.below hb); clear HX; have HX := n_)); (try (have n_ := Aside0.mk (HT.out.below hb); clear HT; have HT := n_)); (have n_ := Aside0.mk (below_step HB.out hb)); clear HB; have HB := n_; clear hb)
  | (go_at_call 12; (with_reducible refine (HEL.out _ _ _ _ _ HX.out.reads HXc.out HT.out.reads HTc.out).mono ?_); rintro e w1 ⟨rfl, hd⟩; have hb := hd.below; clear hd; (try (have n_ := Aside0.mk (HX.out.below hb); clear HX; have HX := n_)); (try (have n_ := Aside0.mk (HT.out.below hb); clear HT; have HT := n_)); (have n_ := Aside0.mk (below_step HB.out hb)); clear HB; have HB := n_; clear hb))
 go_ret
 exact ⟨rfl, HB.out⟩
theorem skipCountClosed (A : Option Addr) (cap : Nat) (l : List (List Int)) (W : World) (h : RowsIn W A l.length cap l) (t : Int) (ht : t < 0) (k0 : Nat) (hsz : laws_szIntSS.f k0 l 1048576 = some t) :
  Calls Try.prog 7 #[.slice A l.length cap] W fun e w' => e = .returned (.bool true) ∧ Below W.heap.size W w' := by
 have HSZ := Aside0.mk (laws_szIntSS.calls k0 A cap l 1048576 t W h.read h.le hsz)
 have htd : decide (t < 0) = true := decide_eq_true ht
 clear h hsz
 go_enter Try.func7, Try.ntmps7
 go_wp2_with (go_at_call 15; refine HSZ.out.mono ?_; rintro e w1 ⟨rfl, hd⟩; have hb := hd.below; clear hd)
 go_ret
 exact ⟨rfl, hb⟩
/-- The law, out of the two functions' contracts. -/
theorem lawCountClosed (A : Option Addr) (cap : Nat) (l : List (List Int)) (W : World) (h : RowsIn W A l.length cap l)
  (hboth : fewRows l → ∃ (r : Int) (b : Bool),
   (∀ (W' : World) (A' : Option Addr) (c' : Nat), Kd.C (Kd.slice 3 (Kd.int .i64)) W' A' l.length l → l.length ≤ c' → Calls Try.prog 26 #[.slice A' l.length c'] W' fun e w' => e = .returned (.tuple #[.int .i64 r, .bool b]) ∧ Below W'.heap.size W' w') ∧
   (∀ (W' : World) (A' : Option Addr) (c' : Nat), Kd.C (Kd.slice 3 (Kd.int .i64)) W' A' l.length l → l.length ≤ c' → Calls Try.prog 27 #[.slice A' l.length c'] W' fun e w' => e = .returned (.tuple #[.int .i64 r, .bool b]) ∧ Below W'.heap.size W' w')) :
  Calls Try.prog 7 #[.slice A l.length cap] W fun e w' => e = .returned (.bool true) ∧ Below W.heap.size W w' := by
 obtain ⟨t, ht, hd⟩ := szIntSS_in h
 obtain ⟨k, hk⟩ := ht.rounds
 by_cases hn : t < 0
 ·exact skipCountClosed A cap l W h t hn k hk
 ·have hf := hd.resolve_left hn
  obtain ⟨r, b, h1, h2⟩ := hboth hf
  exact walkCountClosed A cap l r b W h hf t hn k hk h1 h2
end Go.Proofs.Ythbkjaieenochaa.Law

namespace Go.Proofs.Ythbkjaieenochaa
open Go.RowKit Go.Proofs.YthbkjaieenochaaW.PrintWords Go.Proofs.YthbkjaieenochaaW.PrintLast Go.Proofs.YthbkjaieenochaaW.PrintMore
set_option linter.unusedVariables false
set_option linter.unusedSimpArgs false

/-- A square table whose rows are the values row i. -/
structure SM (W : World) (B : Nat) (ok : Nat → Prop) (g c n : Nat) (T : List (List Int)) (row : Nat → Value) : Prop where
 S : Kd.S (Kd.slice 3 (Kd.int .i64)) 28 W B ok (.slice (some ⟨g, 0, none⟩) n c) T
 len : T.length = n
 sq : ∀ i, i < n → (T.getD i []).length = n
 rw : ∀ i, i < n → W.cell? ⟨g, i, none⟩ = some (row i)
theorem SM.below {W W' : World} {B : Nat} {ok : Nat → Prop} {g c n : Nat} {T : List (List Int)} {row : Nat → Value} (h : SM W B ok g c n T row) (hb : Below W.heap.size W W') : SM W' B ok g c n T row :=
 ⟨Kd.S_below h.S hb, h.len, h.sq, fun i hi => pw_cell_below hb (h.rw i hi)⟩
theorem SM.of_S {W : World} {B : Nat} {ok : Nat → Prop} {g c n : Nat} {T : List (List Int)} (h : Kd.S (Kd.slice 3 (Kd.int .i64)) 28 W B ok (.slice (some ⟨g, 0, none⟩) n c) T) (hl : T.length = n) (hs : ∀ i, i < n → (T.getD i []).length = n) : ∃ row, SM W B ok g c n T row := by
 refine ⟨fun i => (W.cell? ⟨g, i, none⟩).getD (.bool false), h, hl, hs, fun i hi => ?_⟩
 obtain ⟨oki, cs, hcl, hM, hcc, hoki, hback⟩ := Kd.S_borrow h ([] : List Int) (i : Int) (by omega) (by omega)
 obtain ⟨u, rfl, hR⟩ := hM
 have hx := hcc 0 _ rfl
 have hsz : (Kd.slice 3 (Kd.int .i64)).sz = 1 := rfl
 rw [hsz, Nat.mul_one, Nat.add_zero, Int.toNat_natCast] at hx
 have hx2 : W.cell? ⟨g, i, none⟩ = some u := by
  rw [← hx]
  first | rw [add_plain] | rw [add_at, Nat.zero_add] | (simp [Addr.add]; done)
 rw [hx2]; rfl
/-- A row's number is read, and written. -/
theorem SM.put {W : World} {B : Nat} {ok : Nat → Prop} {g c n : Nat} {T : List (List Int)} {row : Nat → Value} (h : SM W B ok g c n T row) (i j : Nat) (hi : i < n) (hj : j < n) :
  ∃ gi ci, row i = .slice (some ⟨gi, 0, none⟩) n ci ∧ n ≤ ci ∧ B ≤ gi ∧ ok gi ∧ gi < W.heap.size ∧ W.cell? ⟨gi, j, none⟩ = some (.int .i64 (rd (T.getD i []) (j : Int))) ∧ W.frozen? ⟨gi, j, none⟩ = false ∧
   ∀ v : Int, SM (W.setCell ⟨gi, j, none⟩ (.int .i64 v)) B ok g c n (putT T i j v) row := by
 have hlen := h.len
 obtain ⟨oki, cs, hcl, hM, hcc, hoki, hback⟩ := Kd.S_borrow h.S ([] : List Int) (i : Int) (by omega) (by omega)
 obtain ⟨u, rfl, hR⟩ := hM
 simp only [Int.toNat_natCast] at hR hcc hback
 have hx := hcc 0 _ rfl
 have hsz : (Kd.slice 3 (Kd.int .i64)).sz = 1 := rfl
 rw [hsz, Nat.mul_one, Nat.add_zero] at hx
 have hil := h.sq i hi
 obtain ⟨gi, ci, rfl, hb, hl, _⟩ := Kd.R_form hR (by omega)
 have hx2 : W.cell? ⟨g, i, none⟩ = some (.slice (some ⟨gi, 0, none⟩) (T.getD i []).length ci) := by
  rw [← hx]
  first | rw [add_plain] | rw [add_at, Nat.zero_add] | (simp [Addr.add]; done)
 have hrow := Option.some.inj ((h.rw i hi).symm.trans hx2)
 have hne := hoki gi (hR.1 _ rfl)
 have hgg : gi ≠ g := fun e => hne.2 (by subst e; rfl)
 have hcell := Kd.R_celln 0 hR (j : Int) (by omega) (by omega)
 rw [Int.toNat_natCast] at hcell
 rw [hil] at hrow
 refine ⟨gi, ci, hrow, by rw [← hil]; exact (Kd.R_reads' hR).2.1, hb, hne.1, hl, hcell.1, hcell.2, fun v => ?_⟩
 have hq := Kd.R_putg hR (j : Int) v
 rw [Int.toNat_natCast] at hq
 refine ⟨hback hq.2 (fun k e_ => by injection e_ with e_; subst e_; exact hR.1 _ rfl) (x' := (T.getD i []).set j v) (Kd.M_row hq.1), by rw [putT_length]; exact h.len, fun k hk => by rw [putT_row]; exact h.sq k hk, fun k hk => ?_⟩
 rw [← h.rw k hk]
 apply World.cell?_setCell_other; exact fun e => hgg (congrArg Addr.block e)
/-- The same, told of all later worlds. -/
theorem SM.putW {W : World} {B : Nat} {ok : Nat → Prop} {g c n : Nat} {T : List (List Int)} {row : Nat → Value} (h : SM W B ok g c n T row) (i j : Nat) (hi : i < n) (hj : j < n) :
  ∃ gi ci, row i = .slice (some ⟨gi, 0, none⟩) n ci ∧ n ≤ ci ∧ B ≤ gi ∧ ok gi ∧ gi < W.heap.size ∧ W.cell? ⟨gi, j, none⟩ = some (.int .i64 (rd (T.getD i []) (j : Int))) ∧ W.frozen? ⟨gi, j, none⟩ = false ∧
   ∀ W', Below W.heap.size W W' → W'.frozen? ⟨gi, j, none⟩ = false ∧ ∀ v : Int, SM (W'.setCell ⟨gi, j, none⟩ (.int .i64 v)) B ok g c n (putT T i j v) row := by
 obtain ⟨gi, ci, h1, h2, h3, h4, h5, h6, h7, _⟩ := h.put i j hi hj
 refine ⟨gi, ci, h1, h2, h3, h4, h5, h6, h7, fun W' hb => ?_⟩
 obtain ⟨gi', ci', k1, _, _, _, _, _, k7, k8⟩ := (h.below hb).put i j hi hj
 have e := h1.symm.trans k1
 injection e with e1 e2 e3
 injection e1 with e1
 injection e1 with e1
 subst e1
 exact ⟨k7, k8⟩
end Go.Proofs.Ythbkjaieenochaa

namespace Go.Proofs.Ythbkjaieenochaa.P
open Go.RowKit Go.Proofs.YthbkjaieenochaaW.PrintWords Go.Proofs.YthbkjaieenochaaW.PrintLast Go.Proofs.YthbkjaieenochaaW.PrintMore
attribute [local go_sem] max2_int min2_int max_two min_two max_three min_three max_four min_four   -- for this text's walks alone
set_option linter.unusedVariables false
set_option linter.unusedSimpArgs false

def spec_l1In.f (a0 : Int) (a1 : Int) (a2 : Int) : Option (Bool) := if a0 ≥ a1 then (some (decide (a0 ≤ a2))) else (some false)
set_option maxHeartbeats 8000000 in
set_option maxRecDepth 100000 in
theorem spec_l1In.calls (a0 : Int) (a1 : Int) (a2 : Int) (r : Bool) (w : World) (h : spec_l1In.f a0 a1 a2 = some r) :
  Calls Try.prog 48 #[.int .i64 a0, .int .i64 a1, .int .i64 a2] w fun e w' => e = .returned (.bool r) ∧ Drawn0 w w' := by
 have H : (if a0 ≥ a1 then (some (decide (a0 ≤ a2))) else (some false)) = some r := h
 clear h
 by_cases c4 : a0 ≥ a1
 ·rw [if_pos c4] at H
  have c4b0 : decide (a1 ≤ a0) = true := decide_eq_true c4
  clear c4
  obtain rfl := Option.some.inj H
  go_enter Try.func48, Try.ntmps48
  go_wp2
  go_ret
  exact ⟨by first | rfl | (simp; done) | (simp [*]; done), by repeat (first | exact Drawn0.refl _ | apply Drawn0.step)⟩
 ·rw [if_neg c4] at H
  have c4b0 : decide (a1 ≤ a0) = false := decide_eq_false c4
  clear c4
  obtain rfl := Option.some.inj H
  go_enter Try.func48, Try.ntmps48
  go_wp2
  go_ret
  exact ⟨by first | rfl | (simp; done) | (simp [*]; done), by repeat (first | exact Drawn0.refl _ | apply Drawn0.step)⟩

end Go.Proofs.Ythbkjaieenochaa.P

namespace Go.Proofs.Ythbkjaieenochaa.P
open Go.RowKit Go.Proofs.YthbkjaieenochaaW.PrintWords Go.Proofs.YthbkjaieenochaaW.PrintLast Go.Proofs.YthbkjaieenochaaW.PrintMore
attribute [local go_sem] max2_int min2_int max_two min_two max_three min_three max_four min_four   -- for this text's walks alone
set_option linter.unusedVariables false
set_option linter.unusedSimpArgs false

def spec_sgSquare.l0 : Nat → List (List Int) → List (List Int) → Int → Int → Option (Bool)
 | 0, _, _, _, _ => none
 | k + 1, x0, x9, x10, x11 => if x11 < x10 then (if 0 ≤ x11 then (if x11 < (x9.length : Int) then (if ((rd_L1 x9 x11).length : Int) = (x0.length : Int) then (spec_sgSquare.l0 k x0 x9 x10 (wrap64 (x11 + 1))) else (some false)) else (none)) else (none)) else (some true)
def spec_sgSquare.f (k : Nat) (l0 : List (List Int)) : Option (Bool) := (spec_l1In.f (l0.length : Int) 1 6).bind fun t155 => (if t155 = true then (spec_sgSquare.l0 k l0 l0 (l0.length : Int) 0) else (some false))
set_option maxHeartbeats 8000000 in
set_option maxRecDepth 100000 in
theorem spec_sgSquare.calls (k : Nat) (A0 : Option Addr) (c0 : Nat) (l0 : List (List Int)) (r : Bool) (w : World) (hr0 : Kd.C (Kd.slice 3 (Kd.int .i64)) w A0 l0.length l0) (hc0 : l0.length ≤ c0) (h : spec_sgSquare.f k l0 = some r) :
  Calls Try.prog 77 #[.slice A0 l0.length c0] w fun e w' => e = .returned (.bool r) ∧ Drawn0 w w' := by
 have HR0 := Aside0.mk hr0
 have HC0 := Aside0.mk hc0
 clear hr0 hc0
 have H : ((spec_l1In.f (l0.length : Int) 1 6).bind fun t155 => (if t155 = true then (spec_sgSquare.l0 k l0 l0 (l0.length : Int) 0) else (some false))) = some r := h
 clear h
 replace H := Option.bind_eq_some_iff.mp H
 obtain ⟨t155, A20, H⟩ := H
 replace H : (if t155 = true then (spec_sgSquare.l0 k l0 l0 (l0.length : Int) 0) else (some false)) = some r := H
 have A2 := Aside0.mk A20
 clear A20
 by_cases c3 : t155 = true
 ·subst c3
  have H1 : (spec_sgSquare.l0 k l0 l0 (l0.length : Int) 0) = some r := by rw [if_pos rfl] at H; exact H
  clear H
  have H := H1
  clear H1
  have H' := Aside0.mk H
  clear H
  go_enter Try.func77, Try.ntmps77
  go_wp2_with (first | ((with_reducible refine gate_callee (f := 48) rfl ?_); refine goesL_ (some 7) rfl rfl Try.func48 (by kernel_rfl) rfl #[.int .i64 (l0.length : Int), .int .i64 1, .int .i64 6] rfl (by (try simp only [List.map_toArray, List.map_cons, List.map_nil]); first | done | rfl | (simp only [List.length_drop, List.length_take]; rfl)) ?_; (with_reducible refine (spec_l1In.calls (l0.length : Int) 1 6 true _ A2.out).mono ?_); rintro e w' ⟨rfl, ⟨nd, rfl⟩⟩; refine ⟨_, rfl, ?_⟩))
  go_loopg [11] k (fun kq v11 w' => ∃ (x11_1 : Int), v11 = .int .i64 x11_1 ∧ Aside0 (spec_sgSquare.l0 kq l0 l0 (l0.length : Int) x11_1 = some r) ∧ Aside0 (kq ≤ k) ∧ Drawn0 w w')
  case atStart => exact ⟨(0), (by first | rfl | (simp; done) | (simp [*]; done)), H', ⟨Nat.le_refl _⟩, by repeat (first | exact Drawn0.refl _ | apply Drawn0.step)⟩
  case round =>
   clear H'
   try clear p2
   try clear c3
   obtain ⟨x11_1, rfl, HA, HK1, ⟨m1, rfl⟩⟩ := hrel
   cases gk with
   | zero => exact absurd HA.out (by simp [spec_sgSquare.l0])
   | succ k1 =>
    have H := HA.out
    clear HA
    simp only [spec_sgSquare.l0] at H
    by_cases c4 : x11_1 < (l0.length : Int)
    ·rw [if_pos c4] at H
     have c4b0 : decide (x11_1 < (l0.length : Int)) = true := decide_eq_true c4
     clear c4
     by_cases c5 : 0 ≤ x11_1
     ·rw [if_pos c5] at H
      have c5b0 : decide (0 ≤ x11_1) = true := decide_eq_true c5
      clear c5
      by_cases c6 : x11_1 < (l0.length : Int)
      ·rw [if_pos c6] at H
       have c6b0 : decide (x11_1 < (l0.length : Int)) = true := decide_eq_true c6
       clear c6
       by_cases c7 : ((rd_L1 l0 x11_1).length : Int) = (l0.length : Int)
       ·rw [if_pos c7] at H
        have c7b0 : (((rd_L1 l0 x11_1).length : Int) == (l0.length : Int)) = true := beq_iff_eq.mpr c7
        have c7b1 : (((rd_L1 l0 x11_1).length : Int) != (l0.length : Int)) = false := bne_eq_false_iff_eq.mpr c7
        have c7b2 : ((rd_L1 l0 x11_1).length == l0.length) = true := by first | simpa using c7 | (simp at c7 ⊢; omega)
        clear c7
        have H' := Aside0.mk H
        clear H
        have p156 : 0 ≤ (x11_1 : Int) := of_decide_eq_true (by first | (with_reducible assumption) | assumption)
        have q156 : x11_1 < (l0.length : Int) := of_decide_eq_true (by first | (with_reducible assumption) | assumption)
        obtain ⟨ad156, A156_0, c156_0, e156, hx156_0, hl156_0, hi156_0⟩ := at_L1 HR0.out x11_1 p156 q156
        cases e156
        have HR156_0 := Aside0.mk hi156_0
        have HC156_0 := Aside0.mk hl156_0
        clear hi156_0 hl156_0
        replace p156 := eq_true p156
        replace q156 := eq_true q156
        go_wp2
        go_roundg k1
        case measure => have := HK1.out; omega
        case rel => exact ⟨(wrap64 (x11_1 + 1)), (by first | rfl | (simp; done) | (simp [*]; done)), H', ⟨by have := HK1.out; omega⟩, by repeat (first | exact Drawn0.refl _ | apply Drawn0.step)⟩
       ·rw [if_neg c7] at H
        have c7b0 : (((rd_L1 l0 x11_1).length : Int) == (l0.length : Int)) = false := beq_eq_false_iff_ne.mpr c7
        have c7b1 : (((rd_L1 l0 x11_1).length : Int) != (l0.length : Int)) = true := bne_iff_ne.mpr c7
        have c7b2 : ((rd_L1 l0 x11_1).length == l0.length) = false := by first | simpa using c7 | (simp at c7 ⊢; omega)
        obtain rfl := Option.some.inj H
        have p156 : 0 ≤ (x11_1 : Int) := of_decide_eq_true (by first | (with_reducible assumption) | assumption)
        have q156 : x11_1 < (l0.length : Int) := of_decide_eq_true (by first | (with_reducible assumption) | assumption)
        obtain ⟨ad156, A156_0, c156_0, e156, hx156_0, hl156_0, hi156_0⟩ := at_L1 HR0.out x11_1 p156 q156
        cases e156
        have HR156_0 := Aside0.mk hi156_0
        have HC156_0 := Aside0.mk hl156_0
        clear hi156_0 hl156_0
        replace p156 := eq_true p156
        replace q156 := eq_true q156
        go_wp2
        go_ret
        exact ⟨by first | rfl | (simp; done) | (simp [*]; done), by repeat (first | exact Drawn0.refl _ | apply Drawn0.step)⟩
      ·rw [if_neg c6] at H
       exact absurd H (by simp)
     ·rw [if_neg c5] at H
      exact absurd H (by simp)
    ·rw [if_neg c4] at H
     have c4b0 : decide (x11_1 < (l0.length : Int)) = false := decide_eq_false c4
     clear c4
     obtain rfl := Option.some.inj H
     go_wp2
     go_ret
     exact ⟨by first | rfl | (simp; done) | (simp [*]; done), by repeat (first | exact Drawn0.refl _ | apply Drawn0.step)⟩
 ·replace c3 := Bool.eq_false_iff.mpr c3
  subst c3
  have H1 : (some false) = some r := by rw [if_neg (show ¬ (false = true) by decide)] at H; exact H
  clear H
  have H := H1
  clear H1
  obtain rfl := Option.some.inj H
  go_enter Try.func77, Try.ntmps77
  go_wp2_with (first | ((with_reducible refine gate_callee (f := 48) rfl ?_); refine goesL_ (some 7) rfl rfl Try.func48 (by kernel_rfl) rfl #[.int .i64 (l0.length : Int), .int .i64 1, .int .i64 6] rfl (by (try simp only [List.map_toArray, List.map_cons, List.map_nil]); first | done | rfl | (simp only [List.length_drop, List.length_take]; rfl)) ?_; (with_reducible refine (spec_l1In.calls (l0.length : Int) 1 6 false _ A2.out).mono ?_); rintro e w' ⟨rfl, ⟨nd, rfl⟩⟩; refine ⟨_, rfl, ?_⟩))
  go_ret
  exact ⟨by first | rfl | (simp; done) | (simp [*]; done), by repeat (first | exact Drawn0.refl _ | apply Drawn0.step)⟩

end Go.Proofs.Ythbkjaieenochaa.P

namespace Go.Proofs.Ythbkjaieenochaa.P
open Go.RowKit Go.Proofs.YthbkjaieenochaaW.PrintWords Go.Proofs.YthbkjaieenochaaW.PrintLast Go.Proofs.YthbkjaieenochaaW.PrintMore
attribute [local go_sem] max2_int min2_int max_two min_two max_three min_three max_four min_four   -- for this text's walks alone
set_option linter.unusedVariables false
set_option linter.unusedSimpArgs false

mutual
def spec_sgRows.l0 : Nat → List (List Int) → Int → Int → Option (Bool)
 | 0, _, _, _ => none
 | k + 1, x8, x9, x10 => if x10 < x9 then (if 0 ≤ x10 then (if x10 < (x8.length : Int) then (spec_sgRows.l1 k 0 x8 x9 x10 (rd_L1 x8 x10) ((rd_L1 x8 x10).length : Int) 0) else (none)) else (none)) else (some true)
def spec_sgRows.l1 : Nat → Int → List (List Int) → Int → Int → List Int → Int → Int → Option (Bool)
 | 0, _, _, _, _, _, _, _ => none
 | k + 1, x5, x8, x9, x10, x14, x15, x16 => if x16 < x15 then (if 0 ≤ x16 then (if x16 < (x14.length : Int) then ((spec_l1In.f (rd x14 x16) (-1) 1).bind fun t159 => (if t159 = true then ((spec_l1In.f (wrap64 (x5 + (rd x14 x16))) 0 1).bind fun t160 => (if t160 = true then (spec_sgRows.l1 k (wrap64 (x5 + (rd x14 x16))) x8 x9 x10 x14 x15 (wrap64 (x16 + 1))) else (some false))) else (some false))) else (none)) else (none)) else (if x5 = 1 then (spec_sgRows.l0 k x8 x9 (wrap64 (x10 + 1))) else (some false))
end
def spec_sgRows.f (k : Nat) (l0 : List (List Int)) : Option (Bool) := spec_sgRows.l0 k l0 (l0.length : Int) 0
set_option maxHeartbeats 8000000 in
set_option maxRecDepth 100000 in
theorem spec_sgRows.calls (k : Nat) (A0 : Option Addr) (c0 : Nat) (l0 : List (List Int)) (r : Bool) (w : World) (hr0 : Kd.C (Kd.slice 3 (Kd.int .i64)) w A0 l0.length l0) (hc0 : l0.length ≤ c0) (h : spec_sgRows.f k l0 = some r) :
  Calls Try.prog 78 #[.slice A0 l0.length c0] w fun e w' => e = .returned (.bool r) ∧ Drawn0 w w' := by
 have HR0 := Aside0.mk hr0
 have HC0 := Aside0.mk hc0
 clear hr0 hc0
 have H : (spec_sgRows.l0 k l0 (l0.length : Int) 0) = some r := h
 clear h
 have H' := Aside0.mk H
 clear H
 go_enter Try.func78, Try.ntmps78
 go_wp2
 go_loopg [10] k (fun kq v10 w' => ∃ (x10_1 : Int), v10 = .int .i64 x10_1 ∧ Aside0 (spec_sgRows.l0 kq l0 (l0.length : Int) x10_1 = some r) ∧ Aside0 (kq ≤ k) ∧ Drawn0 w w')
 case atStart => exact ⟨(0), (by first | rfl | (simp; done) | (simp [*]; done)), H', ⟨Nat.le_refl _⟩, by repeat (first | exact Drawn0.refl _ | apply Drawn0.step)⟩
 case round =>
  clear H'
  obtain ⟨x10_1, rfl, HA, HK1, ⟨m1, rfl⟩⟩ := hrel
  cases gk with
  | zero => exact absurd HA.out (by simp [spec_sgRows.l0])
  | succ k1 =>
   have H := HA.out
   clear HA
   simp only [spec_sgRows.l0] at H
   by_cases c2 : x10_1 < (l0.length : Int)
   ·rw [if_pos c2] at H
    have c2b0 : decide (x10_1 < (l0.length : Int)) = true := decide_eq_true c2
    clear c2
    by_cases c3 : 0 ≤ x10_1
    ·rw [if_pos c3] at H
     have c3b0 : decide (0 ≤ x10_1) = true := decide_eq_true c3
     clear c3
     by_cases c4 : x10_1 < (l0.length : Int)
     ·rw [if_pos c4] at H
      have c4b0 : decide (x10_1 < (l0.length : Int)) = true := decide_eq_true c4
      clear c4
      have H' := Aside0.mk H
      clear H
      have p157 : 0 ≤ (x10_1 : Int) := of_decide_eq_true (by first | (with_reducible assumption) | assumption)
      have q157 : x10_1 < (l0.length : Int) := of_decide_eq_true (by first | (with_reducible assumption) | assumption)
      obtain ⟨ad157, A157_0, c157_0, e157, hx157_0, hl157_0, hi157_0⟩ := at_L1 HR0.out x10_1 p157 q157
      cases e157
      have HR157_0 := Aside0.mk hi157_0
      have HC157_0 := Aside0.mk hl157_0
      clear hi157_0 hl157_0
      replace p157 := eq_true p157
      replace q157 := eq_true q157
      go_wp2
      go_loopg [5, 16] k1 (fun kq v5 v16 w' => ∃ (x5_2 : Int) (x16_2 : Int), v5 = .int .i64 x5_2 ∧ v16 = .int .i64 x16_2 ∧ Aside0 (spec_sgRows.l1 kq x5_2 l0 (l0.length : Int) x10_1 (rd_L1 l0 x10_1) ((rd_L1 l0 x10_1).length : Int) x16_2 = some r) ∧ Aside0 (kq ≤ k1) ∧ Drawn0 w w')
      case atStart => exact ⟨(0), (0), (by first | rfl | (simp; done) | (simp [*]; done)), (by first | rfl | (simp; done) | (simp [*]; done)), H', ⟨Nat.le_refl _⟩, by repeat (first | exact Drawn0.refl _ | apply Drawn0.step)⟩
      case round =>
       clear H'
       try clear c1
       try clear p1
       try clear q1
       try clear hx1
       try clear c2
       try clear c2b0
       try clear p2
       try clear c3
       try clear c3b0
       try clear c4
       try clear c4b0
       try clear hx157_0
       try clear p157
       try clear q157
       obtain ⟨x5_2, x16_2, rfl, rfl, HA, HK2, ⟨m2, rfl⟩⟩ := hrel
       cases gk with
       | zero => exact absurd HA.out (by simp [spec_sgRows.l1])
       | succ k2 =>
        have H := HA.out
        clear HA
        simp only [spec_sgRows.l1] at H
        by_cases c5 : x16_2 < ((rd_L1 l0 x10_1).length : Int)
        ·rw [if_pos c5] at H
         have c5b0 : decide (x16_2 < ((rd_L1 l0 x10_1).length : Int)) = true := decide_eq_true c5
         clear c5
         by_cases c6 : 0 ≤ x16_2
         ·rw [if_pos c6] at H
          have c6b0 : decide (0 ≤ x16_2) = true := decide_eq_true c6
          clear c6
          by_cases c7 : x16_2 < ((rd_L1 l0 x10_1).length : Int)
          ·rw [if_pos c7] at H
           have c7b0 : decide (x16_2 < ((rd_L1 l0 x10_1).length : Int)) = true := decide_eq_true c7
           clear c7
           replace H := Option.bind_eq_some_iff.mp H
           obtain ⟨t159, A80, H⟩ := H
           replace H : (if t159 = true then ((spec_l1In.f (wrap64 (x5_2 + (rd (rd_L1 l0 x10_1) x16_2))) 0 1).bind fun t160 => (if t160 = true then (spec_sgRows.l1 k2 (wrap64 (x5_2 + (rd (rd_L1 l0 x10_1) x16_2))) l0 (l0.length : Int) x10_1 (rd_L1 l0 x10_1) ((rd_L1 l0 x10_1).length : Int) (wrap64 (x16_2 + 1))) else (some false))) else (some false)) = some r := H
           have A8 := Aside0.mk A80
           clear A80
           by_cases c9 : t159 = true
           ·subst c9
            have H1 : ((spec_l1In.f (wrap64 (x5_2 + (rd (rd_L1 l0 x10_1) x16_2))) 0 1).bind fun t160 => (if t160 = true then (spec_sgRows.l1 k2 (wrap64 (x5_2 + (rd (rd_L1 l0 x10_1) x16_2))) l0 (l0.length : Int) x10_1 (rd_L1 l0 x10_1) ((rd_L1 l0 x10_1).length : Int) (wrap64 (x16_2 + 1))) else (some false))) = some r := by rw [if_pos rfl] at H; exact H
            clear H
            have H := H1
            clear H1
            replace H := Option.bind_eq_some_iff.mp H
            obtain ⟨t160, A100, H⟩ := H
            replace H : (if t160 = true then (spec_sgRows.l1 k2 (wrap64 (x5_2 + (rd (rd_L1 l0 x10_1) x16_2))) l0 (l0.length : Int) x10_1 (rd_L1 l0 x10_1) ((rd_L1 l0 x10_1).length : Int) (wrap64 (x16_2 + 1))) else (some false)) = some r := H
            have A10 := Aside0.mk A100
            clear A100
            by_cases c11 : t160 = true
            ·subst c11
             have H1 : (spec_sgRows.l1 k2 (wrap64 (x5_2 + (rd (rd_L1 l0 x10_1) x16_2))) l0 (l0.length : Int) x10_1 (rd_L1 l0 x10_1) ((rd_L1 l0 x10_1).length : Int) (wrap64 (x16_2 + 1))) = some r := by rw [if_pos rfl] at H; exact H
             clear H
             have H := H1
             clear H1
             have H' := Aside0.mk H
             clear H
             have p158 : 0 ≤ (x16_2 : Int) := of_decide_eq_true (by first | (with_reducible assumption) | assumption)
             have q158 : x16_2 < ((rd_L1 l0 x10_1).length : Int) := of_decide_eq_true (by first | (with_reducible assumption) | assumption)
             obtain ⟨ad158, e158, hx158_0⟩ := Kd.at_int HR157_0.out x16_2 p158 q158
             cases e158
             replace p158 := eq_true p158
             replace q158 := eq_true q158
             go_wp2_with (first | ((with_reducible refine gate_callee (f := 48) rfl ?_); refine goesL_ (some 21) rfl rfl Try.func48 (by kernel_rfl) rfl #[.int .i64 (rd (rd_L1 l0 x10_1) x16_2), .int .i64 (-1), .int .i64 1] rfl (by (try simp only [List.map_toArray, List.map_cons, List.map_nil]); first | done | rfl | (simp only [List.length_drop, List.length_take]; rfl)) ?_; (with_reducible refine (spec_l1In.calls (rd (rd_L1 l0 x10_1) x16_2) (-1) 1 true _ A8.out).mono ?_); rintro e w' ⟨rfl, ⟨nd, rfl⟩⟩; refine ⟨_, rfl, ?_⟩) | ((with_reducible refine gate_callee (f := 48) rfl ?_); refine goesL_ (some 27) rfl rfl Try.func48 (by kernel_rfl) rfl #[.int .i64 (wrap64 (x5_2 + (rd (rd_L1 l0 x10_1) x16_2))), .int .i64 0, .int .i64 1] rfl (by (try simp only [List.map_toArray, List.map_cons, List.map_nil]); first | done | rfl | (simp only [List.length_drop, List.length_take]; rfl)) ?_; (with_reducible refine (spec_l1In.calls (wrap64 (x5_2 + (rd (rd_L1 l0 x10_1) x16_2))) 0 1 true _ A10.out).mono ?_); rintro e w' ⟨rfl, ⟨nd, rfl⟩⟩; refine ⟨_, rfl, ?_⟩))
             go_roundg k2
             case measure => have := HK1.out; have := HK2.out; omega
             case rel => exact ⟨(wrap64 (x5_2 + (rd (rd_L1 l0 x10_1) x16_2))), (wrap64 (x16_2 + 1)), (by first | rfl | (simp; done) | (simp [*]; done)), (by first | rfl | (simp; done) | (simp [*]; done)), H', ⟨by have := HK1.out; have := HK2.out; omega⟩, by repeat (first | exact Drawn0.refl _ | apply Drawn0.step)⟩
            ·replace c11 := Bool.eq_false_iff.mpr c11
             subst c11
             have H1 : (some false) = some r := by rw [if_neg (show ¬ (false = true) by decide)] at H; exact H
             clear H
             have H := H1
             clear H1
             obtain rfl := Option.some.inj H
             have p158 : 0 ≤ (x16_2 : Int) := of_decide_eq_true (by first | (with_reducible assumption) | assumption)
             have q158 : x16_2 < ((rd_L1 l0 x10_1).length : Int) := of_decide_eq_true (by first | (with_reducible assumption) | assumption)
             obtain ⟨ad158, e158, hx158_0⟩ := Kd.at_int HR157_0.out x16_2 p158 q158
             cases e158
             replace p158 := eq_true p158
             replace q158 := eq_true q158
             go_wp2_with (first | ((with_reducible refine gate_callee (f := 48) rfl ?_); refine goesL_ (some 21) rfl rfl Try.func48 (by kernel_rfl) rfl #[.int .i64 (rd (rd_L1 l0 x10_1) x16_2), .int .i64 (-1), .int .i64 1] rfl (by (try simp only [List.map_toArray, List.map_cons, List.map_nil]); first | done | rfl | (simp only [List.length_drop, List.length_take]; rfl)) ?_; (with_reducible refine (spec_l1In.calls (rd (rd_L1 l0 x10_1) x16_2) (-1) 1 true _ A8.out).mono ?_); rintro e w' ⟨rfl, ⟨nd, rfl⟩⟩; refine ⟨_, rfl, ?_⟩) | ((with_reducible refine gate_callee (f := 48) rfl ?_); refine goesL_ (some 27) rfl rfl Try.func48 (by kernel_rfl) rfl #[.int .i64 (wrap64 (x5_2 + (rd (rd_L1 l0 x10_1) x16_2))), .int .i64 0, .int .i64 1] rfl (by (try simp only [List.map_toArray, List.map_cons, List.map_nil]); first | done | rfl | (simp only [List.length_drop, List.length_take]; rfl)) ?_; (with_reducible refine (spec_l1In.calls (wrap64 (x5_2 + (rd (rd_L1 l0 x10_1) x16_2))) 0 1 false _ A10.out).mono ?_); rintro e w' ⟨rfl, ⟨nd, rfl⟩⟩; refine ⟨_, rfl, ?_⟩))
             go_ret
             exact ⟨by first | rfl | (simp; done) | (simp [*]; done), by repeat (first | exact Drawn0.refl _ | apply Drawn0.step)⟩
           ·replace c9 := Bool.eq_false_iff.mpr c9
            subst c9
            have H1 : (some false) = some r := by rw [if_neg (show ¬ (false = true) by decide)] at H; exact H
            clear H
            have H := H1
            clear H1
            obtain rfl := Option.some.inj H
            have p158 : 0 ≤ (x16_2 : Int) := of_decide_eq_true (by first | (with_reducible assumption) | assumption)
            have q158 : x16_2 < ((rd_L1 l0 x10_1).length : Int) := of_decide_eq_true (by first | (with_reducible assumption) | assumption)
            obtain ⟨ad158, e158, hx158_0⟩ := Kd.at_int HR157_0.out x16_2 p158 q158
            cases e158
            replace p158 := eq_true p158
            replace q158 := eq_true q158
            go_wp2_with (first | ((with_reducible refine gate_callee (f := 48) rfl ?_); refine goesL_ (some 21) rfl rfl Try.func48 (by kernel_rfl) rfl #[.int .i64 (rd (rd_L1 l0 x10_1) x16_2), .int .i64 (-1), .int .i64 1] rfl (by (try simp only [List.map_toArray, List.map_cons, List.map_nil]); first | done | rfl | (simp only [List.length_drop, List.length_take]; rfl)) ?_; (with_reducible refine (spec_l1In.calls (rd (rd_L1 l0 x10_1) x16_2) (-1) 1 false _ A8.out).mono ?_); rintro e w' ⟨rfl, ⟨nd, rfl⟩⟩; refine ⟨_, rfl, ?_⟩))
            go_ret
            exact ⟨by first | rfl | (simp; done) | (simp [*]; done), by repeat (first | exact Drawn0.refl _ | apply Drawn0.step)⟩
          ·rw [if_neg c7] at H
           exact absurd H (by simp)
         ·rw [if_neg c6] at H
          exact absurd H (by simp)
        ·rw [if_neg c5] at H
         have c5b0 : decide (x16_2 < ((rd_L1 l0 x10_1).length : Int)) = false := decide_eq_false c5
         clear c5
         by_cases c12 : x5_2 = 1
         ·rw [if_pos c12] at H
          have c12b0 : (x5_2 == 1) = true := beq_iff_eq.mpr c12
          have c12b1 : (x5_2 != 1) = false := bne_eq_false_iff_eq.mpr c12
          clear c12
          have H' := Aside0.mk H
          clear H
          go_wp2
          go_roundg k2
          case measure => have := HK1.out; have := HK2.out; omega
          case rel => exact ⟨(wrap64 (x10_1 + 1)), (by first | rfl | (simp; done) | (simp [*]; done)), H', ⟨by have := HK1.out; have := HK2.out; omega⟩, by repeat (first | exact Drawn0.refl _ | apply Drawn0.step)⟩
         ·rw [if_neg c12] at H
          have c12b0 : (x5_2 == 1) = false := beq_eq_false_iff_ne.mpr c12
          have c12b1 : (x5_2 != 1) = true := bne_iff_ne.mpr c12
          obtain rfl := Option.some.inj H
          go_wp2
          go_ret
          exact ⟨by first | rfl | (simp; done) | (simp [*]; done), by repeat (first | exact Drawn0.refl _ | apply Drawn0.step)⟩
     ·rw [if_neg c4] at H
      exact absurd H (by simp)
    ·rw [if_neg c3] at H
     exact absurd H (by simp)
   ·rw [if_neg c2] at H
    have c2b0 : decide (x10_1 < (l0.length : Int)) = false := decide_eq_false c2
    clear c2
    obtain rfl := Option.some.inj H
    go_wp2
    go_ret
    exact ⟨by first | rfl | (simp; done) | (simp [*]; done), by repeat (first | exact Drawn0.refl _ | apply Drawn0.step)⟩

end Go.Proofs.Ythbkjaieenochaa.P
