/- Texts of one chain, in build order. -/
import Derived.Test.YtdcdkckpmkfjdaaYBWeightSumSetSum8
import Derived.Test.YtdcdkckpmkfjdaaWMore
import Derived.Test.YtdcdkckpmkfjdaaProg
import Derived.Below
import Derived.Deep.Draws
import Derived.Deep.AppendLies
import Derived.Maps.AppendAt
import Derived.OwnWalk
import Derived.Laws.BytesArg
import Derived.Laws.MakeOwn
import Derived.Laws.OwnMore
import Derived.Deep.OwnRows
import Derived.Tactics
import Derived.Lib.ConvBytes
import Derived.Laws.Slices
import Derived.WalkKit
import Derived.KernelRfl
import Derived.RowKit3
import Derived.Deep.LoopGhost
import Derived.Deep.QuietTactic
import Derived.BigQuiet
import Derived.WideLaws
import Derived.Deep.DeepCutAuto
import Derived.Deep.CutBlock
import Derived.Deep.RegionHeld3
import Derived.Laws.Rows
import Derived.Lib.AppendStr
import Derived.ArgAppend
import Derived.Laws.IdiomCopy
import Derived.OrdersHeld
import Derived.Laws.BitsLemmas
import Derived.RowKit
import Derived.Shelf.Abstract
import Derived.Test.YtdcdkckpmkfjdaaWTab
import Derived.Test.YtdcdkckpmkfjdaaWFour
namespace Go.Proofs.Ytdcdkckpmkfjdaa
open Go.RowKit Go.Proofs.Ytdcdkckpmkfjdaa.P Go.Proofs.Ytdcdkckpmkfjdaa.L Go.Proofs.YtdcdkckpmkfjdaaW.PrintWords Go.Proofs.YtdcdkckpmkfjdaaW.PrintLast Go.Proofs.YtdcdkckpmkfjdaaW.PrintMore
set_option linter.unusedVariables false
set_option maxRecDepth 100000

/-- All sign matrices of side n. -/
def wgX (n : Nat) : List (List (List Int)) := (wgE 1000 [] (List.replicate n 0)).getD []
theorem wg_1 : wgE 1000 [] (List.replicate 1 0) = some (wgX 1) ∧ (wgX 1).length ≤ 1000 := by decide +kernel
theorem wg_2 : wgE 1000 [] (List.replicate 2 0) = some (wgX 2) ∧ (wgX 2).length ≤ 1000 := by decide +kernel
theorem wg_3 : wgE 1000 [] (List.replicate 3 0) = some (wgX 3) ∧ (wgX 3).length ≤ 1000 := by decide +kernel
theorem wg_4 : wgE 1000 [] (List.replicate 4 0) = some (wgX 4) ∧ (wgX 4).length ≤ 1000 := by decide +kernel
theorem wg_all {n : Nat} (h0 : 1 ≤ n) (h1 : n ≤ 4) : wgE 1000 [] (List.replicate n 0) = some (wgX n) ∧ (wgX n).length ≤ 1000 := by
 have e : n = 1 ∨ n = 2 ∨ n = 3 ∨ n = 4 := by omega
 rcases e with rfl | rfl | rfl | rfl
 ·exact wg_1
 ·exact wg_2
 ·exact wg_3
 ·exact wg_4
def spec_weAll.f (a0 : Int) : Option (List (List (List Int))) := if 1 ≤ a0 ∧ a0 ≤ 4 then some (wgX a0.toNat) else none
theorem spec_weAll.calls (a0 : Int) (r : List (List (List Int))) (w : World) (h : spec_weAll.f a0 = some r) :
  Calls Try.prog 58 #[.int .i64 a0] w fun e w' => ∃ v0_ : Value, e = .returned (v0_) ∧ Kd.N (Kd.slice 22 (Kd.slice 3 (Kd.int .i64))) 36 w' w.heap.size (fun k_ => (w.heap.size ≤ k_)) v0_ r ∧ Below w.heap.size w w' := by
 unfold spec_weAll.f at h
 split at h
 case isFalse => cases h
 rename_i hn
 obtain rfl := Option.some.inj h
 obtain ⟨m, rfl⟩ := Int.eq_ofNat_of_zero_le (show 0 ≤ a0 by omega)
 rw [Int.toNat_natCast]
 obtain ⟨h1, h2⟩ := wg_all (n := m) (by omega) (by omega)
 have hmm : m ≤ 4 := by omega
 have mk1 : ∀ W : World, Sem.run Try.prog (Instr.makeSlice 22 (.int .i64 m) (.int .i64 m)) W = Result.ok (Value.slice (some ⟨W.heap.size, 0, none⟩) m m) (W.alloc (.cells (madeCells #[.int .i64 0] m) 3)) := fun W => run_make_row' (P := Try.prog) 22 3 (.int .i64 0) 8 Try.underlying22 info_ints rfl .i64 .i64 m (by omega) (by omega) W
 have hst : intBlk (w.alloc (.cells (madeCells #[.int .i64 0] m) 3)) w.heap.size (List.replicate m 0) := by unfold intBlk; have := blk_new w (.cells (madeCells #[.int .i64 0] m) 3); rw [madeInts] at this ⊢; exact this
 have hR := intBlk_R (ok := fun _ => True) (base := w.heap.size) hst (Nat.le_refl _) trivial (by rw [List.length_replicate]; omega)
 have hcall := spec_weGoOn.callsG 1000 [] (List.replicate m 0) (wgX m) none 0 _ _ (w.alloc (.cells (madeCells #[.int .i64 0] m) 3)) (fun _ => False) h1 (by omega) (Kd.F_nil _ _ _) (Nat.le_refl _) (Kd.R_reads' hR).2.2 (Nat.le_refl _)
 rw [List.length_replicate, List.length_nil] at hcall
 have HC := Aside0.mk hcall
 clear hcall hR hst h1 h2 hn
 go_enter Try.func58, Try.ntmps58
 go_wp2_with (go_at_call 109; refine HC.out.mono ?_; rintro e w1 ⟨v, rfl, hN, hb⟩; have HN := Aside0.mk hN; have HB := Aside0.mk (below_step (below_alloc (Below.refl w.heap.size w) (.cells (madeCells #[.int .i64 0] m) 3)) hb); clear hN hb)
 go_ret
 exact ⟨_, rfl, Kd.N_lower (Kd.N_mono HN.out (fun k hk => hk.elim (fun h => h.elim) (fun h => Nat.le_trans (by simp) h))) (by simp), HB.out⟩
end Go.Proofs.Ytdcdkckpmkfjdaa

namespace Go.Proofs.Ytdcdkckpmkfjdaa.P
open Go.RowKit Go.Proofs.YtdcdkckpmkfjdaaW.PrintWords Go.Proofs.YtdcdkckpmkfjdaaW.PrintLast Go.Proofs.YtdcdkckpmkfjdaaW.PrintMore
attribute [local go_sem] max2_int min2_int max_two min_two max_three min_three max_four min_four   -- for this text's walks alone
set_option linter.unusedVariables false
set_option linter.unusedSimpArgs false

def impl_power.l0 : Nat → Int → Int → Int → Int → Option (Int)
 | 0, _, _, _, _ => none
 | k + 1, x0, x5, x6, x7 => if x7 < x6 then (impl_power.l0 k x0 (wrap64 (x5 * x0)) x6 (wrap64 (x7 + 1))) else (some x5)
def impl_power.f (k : Nat) (a0 : Int) (a1 : Int) : Option (Int) := impl_power.l0 k a0 1 a1 0
set_option maxHeartbeats 8000000 in
set_option maxRecDepth 100000 in
theorem impl_power.calls (k : Nat) (a0 : Int) (a1 : Int) (r : Int) (w : World) (h : impl_power.f k a0 a1 = some r) :
  Calls Try.prog 79 #[.int .i64 a0, .int .i64 a1] w fun e w' => e = .returned (.int .i64 r) ∧ Drawn0 w w' := by
 have H : (impl_power.l0 k a0 1 a1 0) = some r := h
 clear h
 have H' := Aside0.mk H
 clear H
 go_enter Try.func79, Try.ntmps79
 go_wp2
 go_loopg [5, 7] k (fun kq v5 v7 w' => ∃ (x5_1 : Int) (x7_1 : Int), v5 = .int .i64 x5_1 ∧ v7 = .int .i64 x7_1 ∧ Aside0 (impl_power.l0 kq a0 x5_1 a1 x7_1 = some r) ∧ Aside0 (kq ≤ k) ∧ Drawn0 w w')
 case atStart => exact ⟨(1), (0), (by first | rfl | (simp; done) | (simp [*]; done)), (by first | rfl | (simp; done) | (simp [*]; done)), H', ⟨Nat.le_refl _⟩, by repeat (first | exact Drawn0.refl _ | apply Drawn0.step)⟩
 case round =>
  clear H'
  try clear p2
  obtain ⟨x5_1, x7_1, rfl, rfl, HA, HK1, ⟨m1, rfl⟩⟩ := hrel
  cases gk with
  | zero => exact absurd HA.out (by simp [impl_power.l0])
  | succ k1 =>
   have H := HA.out
   clear HA
   simp only [impl_power.l0] at H
   by_cases c3 : x7_1 < a1
   ·rw [if_pos c3] at H
    have c3b0 : decide (x7_1 < a1) = true := decide_eq_true c3
    clear c3
    have H' := Aside0.mk H
    clear H
    go_wp2
    go_roundg k1
    case measure => have := HK1.out; omega
    case rel => exact ⟨(wrap64 (x5_1 * a0)), (wrap64 (x7_1 + 1)), (by first | rfl | (simp; done) | (simp [*]; done)), (by first | rfl | (simp; done) | (simp [*]; done)), H', ⟨by have := HK1.out; omega⟩, by repeat (first | exact Drawn0.refl _ | apply Drawn0.step)⟩
   ·rw [if_neg c3] at H
    have c3b0 : decide (x7_1 < a1) = false := decide_eq_false c3
    clear c3
    obtain rfl := Option.some.inj H
    go_wp2
    go_ret
    exact ⟨by first | rfl | (simp; done) | (simp [*]; done), by repeat (first | exact Drawn0.refl _ | apply Drawn0.step)⟩

end Go.Proofs.Ytdcdkckpmkfjdaa.P

namespace Go.Proofs.Ytdcdkckpmkfjdaa.P
open Go.RowKit Go.Proofs.YtdcdkckpmkfjdaaW.PrintWords Go.Proofs.YtdcdkckpmkfjdaaW.PrintLast Go.Proofs.YtdcdkckpmkfjdaaW.PrintMore
attribute [local go_sem] max2_int min2_int max_two min_two max_three min_three max_four min_four   -- for this text's walks alone
set_option linter.unusedVariables false
set_option linter.unusedSimpArgs false

def spec_wePower.l0 : Nat → Int → Int → Int → Option (Int)
 | 0, _, _, _ => none
 | k + 1, x0, x1, x5 => if x1 > 0 then (spec_wePower.l0 k x0 (wrap64 (x1 - 1)) (wrap64 (x5 * x0))) else (some x5)
def spec_wePower.f (k : Nat) (a0 : Int) (a1 : Int) : Option (Int) := spec_wePower.l0 k a0 a1 1
set_option maxHeartbeats 8000000 in
set_option maxRecDepth 100000 in
theorem spec_wePower.calls (k : Nat) (a0 : Int) (a1 : Int) (r : Int) (w : World) (h : spec_wePower.f k a0 a1 = some r) :
  Calls Try.prog 78 #[.int .i64 a0, .int .i64 a1] w fun e w' => e = .returned (.int .i64 r) ∧ Drawn0 w w' := by
 have H : (spec_wePower.l0 k a0 a1 1) = some r := h
 clear h
 have H' := Aside0.mk H
 clear H
 go_enter Try.func78, Try.ntmps78
 go_wp2
 go_loopg [1, 5] k (fun kq v1 v5 w' => ∃ (x1_1 : Int) (x5_1 : Int), v1 = .int .i64 x1_1 ∧ v5 = .int .i64 x5_1 ∧ Aside0 (spec_wePower.l0 kq a0 x1_1 x5_1 = some r) ∧ Aside0 (kq ≤ k) ∧ Drawn0 w w')
 case atStart => exact ⟨(a1), (1), (by first | rfl | (simp; done) | (simp [*]; done)), (by first | rfl | (simp; done) | (simp [*]; done)), H', ⟨Nat.le_refl _⟩, by repeat (first | exact Drawn0.refl _ | apply Drawn0.step)⟩
 case round =>
  clear H'
  try clear p2
  obtain ⟨x1_1, x5_1, rfl, rfl, HA, HK1, ⟨m1, rfl⟩⟩ := hrel
  cases gk with
  | zero => exact absurd HA.out (by simp [spec_wePower.l0])
  | succ k1 =>
   have H := HA.out
   clear HA
   simp only [spec_wePower.l0] at H
   by_cases c3 : x1_1 > 0
   ·rw [if_pos c3] at H
    have c3b0 : decide (0 < x1_1) = true := decide_eq_true c3
    clear c3
    have H' := Aside0.mk H
    clear H
    go_wp2
    go_roundg k1
    case measure => have := HK1.out; omega
    case rel => exact ⟨(wrap64 (x1_1 - 1)), (wrap64 (x5_1 * a0)), (by first | rfl | (simp; done) | (simp [*]; done)), (by first | rfl | (simp; done) | (simp [*]; done)), H', ⟨by have := HK1.out; omega⟩, by repeat (first | exact Drawn0.refl _ | apply Drawn0.step)⟩
   ·rw [if_neg c3] at H
    have c3b0 : decide (0 < x1_1) = false := decide_eq_false c3
    clear c3
    obtain rfl := Option.some.inj H
    go_wp2
    go_ret
    exact ⟨by first | rfl | (simp; done) | (simp [*]; done), by repeat (first | exact Drawn0.refl _ | apply Drawn0.step)⟩

end Go.Proofs.Ytdcdkckpmkfjdaa.P

namespace Go.Proofs.Ytdcdkckpmkfjdaa.L
open Go.RowKit Go.Proofs.Ytdcdkckpmkfjdaa Go.Proofs.Ytdcdkckpmkfjdaa.P Go.Proofs.YtdcdkckpmkfjdaaW.PrintWords Go.Proofs.YtdcdkckpmkfjdaaW.PrintLast Go.Proofs.YtdcdkckpmkfjdaaW.PrintMore
set_option linter.unusedVariables false

/-- The power, as the words hold it. -/
def pw (a : Int) : Nat → Int
 | 0 => 1
 | n + 1 => wrap64 (pw a n * a)
theorem impl_power_l0 (a n : Int) (h : n ≤ 9223372036854775807) : ∀ (d i : Nat), i + d = n.toNat → Ev (fun k => impl_power.l0 k a (pw a i) n i) (pw a n.toNat) := by
 intro d
 induction d with
 | zero =>
  intro i hi
  refine Ev.step (fun k => by rw [impl_power.l0]) ?_
  have e : i = n.toNat := by omega
  subst e
  exact Ev.ite_neg (by omega) (Ev.now _)
 | succ d ih =>
  intro i hi
  refine Ev.step (fun k => by rw [impl_power.l0]) ?_
  rw [wrapS i (by omega)]
  exact Ev.ite_pos (by omega) (ih (i + 1) (by omega))
theorem impl_power_ev (a n : Int) (h : n ≤ 9223372036854775807) : Ev (fun k => impl_power.f k a n) (pw a n.toNat) := impl_power_l0 a n h n.toNat 0 (by omega)
theorem spec_power_l0 (a : Int) : ∀ (d i : Nat), d ≤ 9223372036854775807 → Ev (fun k => spec_wePower.l0 k a d (pw a i)) (pw a (i + d)) := by
 intro d
 induction d with
 | zero =>
  intro i hd
  refine Ev.step (fun k => by rw [spec_wePower.l0]) ?_
  exact Ev.ite_neg (by omega) (Ev.now _)
 | succ d ih =>
  intro i hd
  refine Ev.step (fun k => by rw [spec_wePower.l0]) ?_
  refine Ev.ite_pos (by omega) ?_
  rw [show wrap64 (((d + 1 : Nat) : Int) - 1) = (d : Int) by unfold wrap64; omega, show i + (d + 1) = i + 1 + d by omega]
  exact ih (i + 1) (by omega)
theorem spec_power_ev (a n : Int) (h : n ≤ 9223372036854775807) : Ev (fun k => spec_wePower.f k a n) (pw a n.toNat) := by
 by_cases h0 : 0 ≤ n
 ·have := spec_power_l0 a n.toNat 0 (by omega)
  rw [Nat.zero_add, Int.toNat_of_nonneg h0] at this
  exact this
 ·unfold spec_wePower.f
  refine Ev.step (fun k => by rw [spec_wePower.l0]) ?_
  rw [show n.toNat = 0 by omega]
  exact Ev.ite_neg (by omega) (Ev.now _)
end Go.Proofs.Ytdcdkckpmkfjdaa.L

namespace Go.Proofs.Ytdcdkckpmkfjdaa
open Go.RowKit Go.Proofs.YtdcdkckpmkfjdaaW.PrintWords Go.Proofs.YtdcdkckpmkfjdaaW.PrintLast Go.Proofs.YtdcdkckpmkfjdaaW.PrintMore
set_option linter.unusedVariables false
set_option linter.unusedSimpArgs false

/-- The sum of the first numbers, with no wrap. -/
def ps (l : List Int) : Nat → Int
 | 0 => 0
 | j + 1 => ps l j + rd l j
theorem alt_from (l : List Int) (h : altB l = true) : ∀ j, j ≤ l.length → altFrom (l.drop j) (ps l j) = true ∧ 0 ≤ ps l j ∧ ps l j ≤ 1
 | 0, _ => ⟨h, by simp [ps], by simp [ps]⟩
 | j + 1, hj => by
  obtain ⟨h1, h2, h3⟩ := alt_from l h j (by omega)
  cases hb : inB (rd l j) (-1) 1 with
  | false => rw [altFrom_false1 l j hj _ hb] at h1; cases h1
  | true =>
   rw [altFrom_step l j hj _ hb, Bool.and_eq_true] at h1
   have h4 := (inB_iff _ _ _).1 h1.1
   exact ⟨h1.2, h4.1, h4.2⟩
theorem alt_ps {l : List Int} (h : altB l = true) {j : Nat} (hj : j ≤ l.length) : 0 ≤ ps l j ∧ ps l j ≤ 1 := (alt_from l h j hj).2
theorem alt_rd {l : List Int} (h : altB l = true) {j : Nat} (hj : j < l.length) : -1 ≤ rd l j ∧ rd l j ≤ 1 := by
 have h1 := (alt_from l h j (by omega)).1
 cases hb : inB (rd l j) (-1) 1 with
 | false => rw [altFrom_false1 l j hj _ hb] at h1; cases h1
 | true => exact (inB_iff _ _ _).1 hb
theorem wrap_small {x : Int} (h1 : -1000000000000 ≤ x) (h2 : x ≤ 1000000000000) : wrap64 x = x := by
 simp only [wrap64]; omega
theorem sumTo_ps {l : List Int} (h : altB l = true) : ∀ {j : Nat}, j ≤ l.length → sumTo l j = ps l j
 | 0, _ => rfl
 | j + 1, hj => by
  have h1 := alt_ps h hj
  rw [sumTo, sumTo_ps h (by omega)]
  exact wrap_small (by show _ ≤ ps l (j + 1); omega) (by show ps l (j + 1) ≤ _; omega)
theorem sumTo_take (l : List Int) (j : Nat) : ∀ i, i ≤ j → sumTo (l.take j) i = sumTo l i
 | 0, _ => rfl
 | i + 1, hi => by
  rw [sumTo, sumTo, sumTo_take l j i (by omega)]
  have : rd (l.take j) i = rd l i := by simp [rd, List.getD_eq_getElem?_getD, List.getElem?_take, show i < j by omega]
  rw [this]
theorem sumW_take {l : List Int} (h : altB l = true) {j : Nat} (hj : j ≤ l.length) : sumW (l.take j) = ps l j := by
 unfold sumW
 rw [List.length_take, Nat.min_eq_left hj, sumTo_take l j j (Nat.le_refl _), sumTo_ps h hj]
theorem rd_colL (m : List (List Int)) (i j : Nat) (hi : i < m.length) : rd (colL m j) i = rd (m.getD i []) j := by
 simp [colL, colTo, rd, List.getD_eq_getElem?_getD, hi]
theorem RetM.mono_ {w w1 : World} {T : List (List Int)} (hb : Below w.heap.size w w1) {e : Ending} {w' : World} (h : RetM w1 T e w') : RetM w T e w' := by
 obtain ⟨g0, gs, rfl, hm, hb2⟩ := h
 exact ⟨g0, gs, rfl, hm.lower hb.size, below_step hb hb2⟩
end Go.Proofs.Ytdcdkckpmkfjdaa

namespace Go.Proofs.Ytdcdkckpmkfjdaa
open Go.RowKit Go.Proofs.YtdcdkckpmkfjdaaW.PrintWords Go.Proofs.YtdcdkckpmkfjdaaW.PrintLast Go.Proofs.YtdcdkckpmkfjdaaW.PrintMore
set_option linter.unusedVariables false
set_option linter.unusedSimpArgs false

/-- The kind at a place, and the table of them. -/
def kF (m : List (List Int)) (i j : Nat) : Int := if rd (m.getD i []) j = 1 then 4 else if rd (m.getD i []) j = -1 then 5 else 2 * ps (m.getD i []) j + ps (colL m j) i
def kindsM (m : List (List Int)) : List (List Int) := tableL (kF m) m.length m.length
theorem kF_range {m : List (List Int)} (h : isSign m = true) {i j : Nat} (hi : i < m.length) (hj : j < m.length) : 0 ≤ kF m i j ∧ kF m i j ≤ 5 := by
 obtain ⟨h1, h2, h3, h4⟩ := isSign_facts h
 have a := alt_ps (h4 i hi).1 (j := j) (by rw [h3 i hi]; omega)
 have b := alt_ps (h4 j hj).2 (j := i) (by rw [colL_length]; omega)
 unfold kF
 split
 ·omega
 ·split <;> omega

set_option maxHeartbeats 4000000 in
theorem kinds_1.calls (l0 : List (List Int)) (i j b : Nat) (A0 : Option Addr) (c0 : Nat) (W : World) (hs : isSign l0 = true) (hi : i < l0.length) (hj : j < l0.length)
  (hr0 : Kd.C (Kd.slice 3 (Kd.int .i64)) W A0 l0.length l0) (hc0 : l0.length ≤ c0) (hx0 : W.cell? ⟨b, 0, none⟩ = some (.slice A0 l0.length c0)) :
  Gives Try.prog 152 #[.int .i64 i, .int .i64 j, .pointer (some ⟨b, 0, none⟩)] W (.int .i64 (kF l0 i j)) := by
 unfold Gives
 obtain ⟨h1, h2, h3, h4⟩ := isSign_facts hs
 obtain ⟨ad, A1, c1, e0, hx, hc1, hrow⟩ := rowsAt hr0 i hi
 cases e0
 have hjr : j < (l0.getD i []).length := by rw [h3 i hi]; exact hj
 obtain ⟨ad2, e2, hy⟩ := Kd.at_int hrow j (by omega) (by omega)
 cases e2
 have hrl := h3 i hi
 have hcl := colL_length l0 j
 have hsr := sumW_take (h4 i hi).1 (j := j) (by omega)
 have hsc := sumW_take (h4 j hj).2 (j := i) (by omega)
 have hps := alt_ps (h4 i hi).1 (j := j) (by omega)
 have hpc := alt_ps (h4 j hj).2 (j := i) (by omega)
 have hcol := fun W' hb => impl_column.calls' (some ad) c0 l0 j W' (Kd.C_below hr0 hb) (by omega) (fun k hk => by rw [h3 k hk]; exact hj)
 have hsum := fun W' hb => impl_sum.calls' (some ad2) c1 ((l0.getD i []).take j) W' (Kd.C_below (Kd.C_take hrow (by omega)) hb)
 rw [hsr] at hsum
 have htl : ((l0.getD i []).take j).length = j := by rw [List.length_take]; omega
 rw [htl] at hsum
 have HK := Aside0.mk (show kF l0 i j = if rd (l0.getD i []) j = 1 then 4 else if rd (l0.getD i []) j = -1 then 5 else 2 * ps (l0.getD i []) j + ps (colL l0 j) i from rfl)
 have HC := Aside0.mk (show i ≤ (colL l0 j).length by omega)
 obtain ⟨row, hrw⟩ : ∃ r, r = l0.getD i [] := ⟨_, rfl⟩
 rw [← hrw] at hy hx hsum HK hps hjr hc1 hrl
 obtain ⟨x, hxx⟩ : ∃ x, x = rd row j := ⟨_, rfl⟩
 obtain ⟨p, hp⟩ : ∃ x, x = ps row j := ⟨_, rfl⟩
 obtain ⟨q, hq⟩ : ∃ x, x = ps (colL l0 j) i := ⟨_, rfl⟩
 rw [← hxx] at hy HK
 rw [← hp] at hsum HK hps
 rw [← hq] at hsc HK hpc
 simp only [Int.toNat_natCast] at hy
 have hiz : (i : Int) < (l0.length : Int) := by omega
 have hjz : (j : Int) < (row.length : Int) := by omega
 have hjc : j ≤ c1 := by omega
 have HB0 := Aside0.mk (Below.refl W.heap.size W)
 have HSC := Aside0.mk hsc
 obtain ⟨hp0, hp1⟩ := hps
 obtain ⟨hq0, hq1⟩ := hpc
 clear hrw hxx hp hq hrow hr0 h1 h3 h4 hsr htl hs hrl hcl hsc
 by_cases e1 : x = 1
 ·have HE := Aside0.mk (show kF l0 i j = 4 by rw [HK.out, if_pos e1])
  subst e1
  clear HK
  go_enter Try.func152, Try.ntmps152
  go_wp2
  go_ret
  exact ⟨by rw [HE.out]; rfl, Below.refl _ _⟩
 ·have hx1 : (x == 1) = false := by rw [beq_eq_false_iff_ne]; exact e1
  by_cases e2 : x = -1
  ·have HE := Aside0.mk (show kF l0 i j = 5 by rw [HK.out, if_neg e1, if_pos e2])
   subst e2
   clear HK
   go_enter Try.func152, Try.ntmps152
   go_wp2
   go_ret
   exact ⟨by rw [HE.out]; rfl, Below.refl _ _⟩
  ·have hx2 : (x == -1) = false := by rw [beq_eq_false_iff_ne]; exact e2
   have HE := Aside0.mk (show kF l0 i j = 2 * p + q by rw [HK.out, if_neg e1, if_neg e2])
   have HE1 := Aside0.mk (show kF l0 i j = IntKind.i64.wrap (2 * p) + q by rw [HE.out, i64_w, wrap_small (by omega) (by omega)])
   have HE2 := Aside0.mk (show kF l0 i j = IntKind.i64.wrap (IntKind.i64.wrap (2 * p) + q) by rw [← HE1.out, HE.out, i64_w, wrap_small (by omega) (by omega)])
   clear HK e1 e2
   go_enter Try.func152, Try.ntmps152
   go_wp2
   go_region_with (first | (go_at_call 147; refine (hcol _ (below_drew HB0.out)).mono ?_; rintro e w2 ⟨v, rfl, hR, hb⟩; have HB2 := Aside0.mk (below_step (below_drew HB0.out) hb); obtain ⟨A2, c2, rfl⟩ := Kd.R_slice hR; have hq := Kd.R_reads' hR; have hsum2 := impl_sum.calls' A2 c2 ((colL l0 j).take i) w2 (Kd.C_take hq.2.2 HC.out); rw [HSC.out, List.length_take, Nat.min_eq_left HC.out] at hsum2; have hcc := hq.2.1; have hic := HC.out; have hicc : i ≤ c2 := (by omega); clear hR hb hq) | (go_at_call 113; (with_reducible refine (hsum _ (by repeat (first | exact HB0.out | apply below_drew))).mono ?_); rintro e w1 ⟨rfl, rfl⟩) | (go_at_call 113; refine hsum2.mono ?_; rintro e w1 ⟨rfl, rfl⟩))
   all_goals
    go_wp2
    go_ret
    exact ⟨by first | (rw [HE1.out]; rfl) | (rw [HE2.out]; rfl) | (rw [HE.out]; rfl), HB2.out⟩

set_option maxHeartbeats 1000000 in
theorem impl_kinds.callsM (A0 : Option Addr) (c0 : Nat) (l0 : List (List Int)) (w : World) (hs : isSign l0 = true) (hr0 : Kd.C (Kd.slice 3 (Kd.int .i64)) w A0 l0.length l0) (hc0 : l0.length ≤ c0) :
  Calls Try.prog 146 #[.slice A0 l0.length c0] w (RetM w (kindsM l0)) := by
 have eg : ∀ args w, (callFunc 152 args).run Try.prog w = .ok (.enter 152 args) w := enters_of Try.func152 (by kernel_rfl) rfl
 have hB2 : Below w.heap.size w (w.alloc (.cells #[.slice A0 l0.length c0] 36)) := below_alloc (Below.refl _ _) _
 have hx : (w.alloc (.cells #[.slice A0 l0.length c0] 36)).cell? ⟨w.heap.size, 0, none⟩ = some (.slice A0 l0.length c0) := by rw [World.cell?_alloc_at _ _ _ _ rfl]; rfl
 have h2 := (isSign_facts hs).2.1
 have hcon := impl_tableC.callsM 152 #[.pointer (some ⟨w.heap.size, 0, none⟩)] (kF l0) l0.length l0.length (w.alloc (.cells #[.slice A0 l0.length c0] 36)) (by omega) (by omega) eg
  (fun i j W hi hj hb => kinds_1.calls l0 i j _ A0 c0 W hs hi hj (Kd.C_below (Kd.C_below hr0 hB2) hb) hc0 (pw_cell_below hb hx))
 have HB := Aside0.mk hB2
 clear hr0 hs hB2
 go_enter Try.func146, Try.ntmps146
 go_wp2_with (go_at_call 80; refine hcon.mono ?_; rintro e w' h; obtain ⟨g0, gs, rfl, hm, hb⟩ := RetM.mono_ HB.out h; have HM := Aside0.mk hm; have HB2 := Aside0.mk hb; clear hm hb h)
 go_ret
 exact ⟨g0, gs, rfl, HM.out, HB2.out⟩
end Go.Proofs.Ytdcdkckpmkfjdaa

namespace Go.Proofs.Ytdcdkckpmkfjdaa.L
set_option linter.unusedVariables false
open Go.RowKit Go.Proofs.Ytdcdkckpmkfjdaa Go.Proofs.Ytdcdkckpmkfjdaa.P Go.Proofs.YtdcdkckpmkfjdaaW.PrintWords Go.Proofs.YtdcdkckpmkfjdaaW.PrintLast Go.Proofs.YtdcdkckpmkfjdaaW.PrintMore

/-- The sums of the columns, when row i is read up to column j. -/
def colS (m : List (List Int)) (i j : Nat) : List Int := (List.range m.length).map fun t => ps (colL m t) (if t < j then i + 1 else i)
theorem colS_length (m : List (List Int)) (i j : Nat) : (colS m i j).length = m.length := by simp [colS]
theorem colS_rd (m : List (List Int)) (i j t : Nat) (h : t < m.length) : rd (colS m i j) (t : Int) = ps (colL m t) (if t < j then i + 1 else i) := by
 rw [rd_at _ _ (by rw [colS_length]; exact h)]; simp [colS]
theorem colS_end (m : List (List Int)) (i : Nat) : colS m i m.length = colS m (i + 1) 0 := by
 unfold colS
 apply List.map_congr_left
 intro t ht
 rw [if_pos (List.mem_range.1 ht), if_neg (by omega)]
theorem colS_set (m : List (List Int)) (i j : Nat) (hi : i < m.length) (hj : j < m.length) : (colS m i j).set j (ps (colL m j) i + rd (m.getD i []) j) = colS m i (j + 1) := by
 apply List.ext_getElem
 ·simp [colS]
 ·intro t h1 h2
  rw [colS_length] at h2
  rw [List.getElem_set]
  simp only [colS, List.getElem_map, List.getElem_range]
  by_cases e : j = t
  ·subst e
   rw [if_pos rfl, if_pos (by omega), ps, rd_colL m i j hi]
  ·rw [if_neg e]
   by_cases h : t < j
   ·rw [if_pos h, if_pos (by omega)]
   ·rw [if_neg h, if_neg (by omega)]
theorem rowL_succ (f : Nat → Nat → Int) (i j : Nat) : rowL f i (j + 1) = rowL f i j ++ [f i j] := by simp [rowL, List.range_succ]
theorem colS_zero (m : List (List Int)) : colS m 0 0 = List.replicate m.length 0 := by
 unfold colS
 rw [List.eq_replicate_iff]
 refine ⟨by simp, fun b hb => ?_⟩
 obtain ⟨t, _, rfl⟩ := List.mem_map.1 hb
 rw [if_neg (by omega)]; rfl

theorem weKinds_l1 (m : List (List Int)) (hs : isSign m = true) (acc : List (List Int)) (i : Nat) (hi : i < m.length) (r : List (List Int))
  (hr : ∀ x : Unit, Ev (fun k => spec_weKinds.l0 k (acc ++ [rowL (kF m) i m.length]) (colS m (i + 1) 0) m m.length (wrap64 ((i : Int) + 1))) r) (hacc : acc.length ≤ 6) :
  ∀ (d j : Nat), j + d = m.length → Ev (fun k => spec_weKinds.l1 k acc (colS m i j) (rowL (kF m) i j) (ps (m.getD i []) j) m m.length i (m.getD i []) (m.getD i []).length j) r := by
 obtain ⟨h1, h2, h3, h4⟩ := isSign_facts hs
 intro d
 induction d with
 | zero =>
  intro j hj
  refine Ev.step (fun k => by rw [spec_weKinds.l1]) ?_
  rw [h3 i hi]
  refine Ev.ite_neg (by omega) (Ev.ite_pos (by omega) ?_)
  have hj2 : j = m.length := by omega
  subst hj2
  rw [colS_end]
  exact hr ()
 | succ d ih =>
  intro j hj
  have hjn : j < m.length := by omega
  have hjr : j < (m.getD i []).length := by rw [h3 i hi]; exact hjn
  have a0 := alt_ps (h4 i hi).1 (j := j) (by omega)
  have a1 := alt_ps (h4 i hi).1 (j := j + 1) (by omega)
  have b0 := alt_ps (h4 j hjn).2 (j := i) (by rw [colL_length]; omega)
  have b1 := alt_ps (h4 j hjn).2 (j := i + 1) (by rw [colL_length]; omega)
  have x1 := alt_rd (h4 i hi).1 (j := j) hjr
  have hcs : rd (colS m i j) (j : Int) = ps (colL m j) i := by rw [colS_rd m i j j hjn, if_neg (by omega)]
  rw [ps] at b1
  rw [rd_colL m i j hi] at b1
  have e1 : wrap64 (ps (m.getD i []) j + rd (m.getD i []) j) = ps (m.getD i []) (j + 1) := by rw [ps]; exact wrap_small (by omega) (by omega)
  have e2 : wrap64 (rd (colS m i j) (j : Int) + rd (m.getD i []) j) = ps (colL m j) i + rd (m.getD i []) j := by rw [hcs]; exact wrap_small (by omega) (by omega)
  have e3 : wrap64 (wrap64 (2 * ps (m.getD i []) j) + rd (colS m i j) (j : Int)) = 2 * ps (m.getD i []) j + ps (colL m j) i := by
   rw [hcs, wrap_small (x := 2 * ps (m.getD i []) j) (by omega) (by omega)]; exact wrap_small (by omega) (by omega)
  have hz : (0 : Int) ≤ (j : Int) := by omega
  have hjz : (j : Int) < ((m.getD i []).length : Int) := by omega
  have hcl : (j : Int) < ((colS m i j).length : Int) := by rw [colS_length]; omega
  have hrw : (rowL (kF m) i j).length < 17592186044416 := by rw [rowL_length]; omega
  have hnext := ih (j + 1) (by omega)
  refine Ev.step (fun k => by rw [spec_weKinds.l1]) ?_
  refine Ev.ite_pos hjz (Ev.ite_pos hz (Ev.ite_pos hjz ?_))
  rw [e1, e2, e3, wrapS j (by omega), Int.toNat_natCast, colS_set m i j hi hjn]
  rw [rowL_succ] at hnext
  by_cases c1 : rd (m.getD i []) (j : Int) = 1
  ·refine Ev.ite_pos c1 (Ev.ite_pos hrw (Ev.ite_pos hcl ?_))
   have : kF m i j = 4 := by unfold kF; rw [if_pos c1]
   rw [this] at hnext
   exact hnext
  ·refine Ev.ite_neg c1 ?_
   by_cases c2 : rd (m.getD i []) (j : Int) = -1
   ·refine Ev.ite_pos c2 (Ev.ite_pos hrw (Ev.ite_pos hcl ?_))
    have : kF m i j = 5 := by unfold kF; rw [if_neg c1, if_pos c2]
    rw [this] at hnext
    exact hnext
   ·refine Ev.ite_neg c2 (Ev.ite_pos hcl (Ev.ite_pos hrw ?_))
    have : kF m i j = 2 * ps (m.getD i []) j + ps (colL m j) i := by unfold kF; rw [if_neg c1, if_neg c2]
    rw [this] at hnext
    exact hnext
theorem weKinds_l0 (m : List (List Int)) (hs : isSign m = true) : ∀ (d i : Nat), i + d = m.length → Ev (fun k => spec_weKinds.l0 k (tableL (kF m) i m.length) (colS m i 0) m m.length i) (kindsM m) := by
 obtain ⟨h1, h2, h3, h4⟩ := isSign_facts hs
 intro d
 induction d with
 | zero =>
  intro i hi
  refine Ev.step (fun k => by rw [spec_weKinds.l0]) ?_
  have hi2 : i = m.length := by omega
  subst hi2
  exact Ev.ite_neg (by omega) (Ev.now _)
 | succ d ih =>
  intro i hi
  refine Ev.step (fun k => by rw [spec_weKinds.l0]) ?_
  refine Ev.ite_pos (by omega) (Ev.ite_pos (by omega) (Ev.ite_pos (by omega) ?_))
  rw [rd1_get]
  refine weKinds_l1 m hs _ i (by omega) _ (fun _ => ?_) (by rw [tableL_length]; omega) m.length 0 (by omega)
  have e : tableL (kF m) i m.length ++ [rowL (kF m) i m.length] = tableL (kF m) (i + 1) m.length := by simp [tableL, List.range_succ]
  rw [e, wrapS i (by omega)]
  exact ih (i + 1) (by omega)
theorem weKinds_ev (m : List (List Int)) (hs : isSign m = true) : Ev (fun k => spec_weKinds.f k m) (kindsM m) := by
 have h2 := (isSign_facts hs).2.1
 unfold spec_weKinds.f
 refine Ev.ite_pos (by omega) (Ev.ite_pos (by omega) ?_)
 have := weKinds_l0 m hs m.length 0 (by omega)
 rw [colS_zero] at this
 exact this
end Go.Proofs.Ytdcdkckpmkfjdaa.L

namespace Go.Proofs.Ytdcdkckpmkfjdaa
open Go.RowKit Go.Proofs.YtdcdkckpmkfjdaaW.PrintWords Go.Proofs.YtdcdkckpmkfjdaaW.PrintLast Go.Proofs.YtdcdkckpmkfjdaaW.PrintMore
set_option linter.unusedVariables false

def impl_sum.f (l0 : List Int) : Option Int := some (sumW l0)
theorem impl_sum.calls (A0 : Option Addr) (c0 : Nat) (l0 : List Int) (r : Int) (w : World) (hr0 : Kd.C (Kd.int .i64) w A0 l0.length l0) (hc0 : l0.length ≤ c0) (h : impl_sum.f l0 = some r) :
  Calls Try.prog 113 #[.slice A0 l0.length c0] w fun e w' => e = .returned (.int .i64 r) ∧ Drawn0 w w' := by
 obtain rfl := Option.some.inj h
 exact (impl_sum.calls' A0 c0 l0 w hr0).mono fun e w' h => ⟨h.1, by rw [h.2]; exact Drawn0.refl _⟩

end Go.Proofs.Ytdcdkckpmkfjdaa

namespace Go.Proofs.Ytdcdkckpmkfjdaa
open Go.RowKit Go.Proofs.YtdcdkckpmkfjdaaW.PrintWords Go.Proofs.YtdcdkckpmkfjdaaW.PrintLast Go.Proofs.YtdcdkckpmkfjdaaW.PrintMore
set_option linter.unusedVariables false

def impl_kinds.f (l0 : List (List Int)) : Option (List (List Int)) := if isSign l0 = true then some (kindsM l0) else none
theorem impl_kinds.calls (A0 : Option Addr) (c0 : Nat) (l0 : List (List Int)) (r : List (List Int)) (w : World) (hr0 : Kd.C (Kd.slice 3 (Kd.int .i64)) w A0 l0.length l0) (hc0 : l0.length ≤ c0) (h : impl_kinds.f l0 = some r) :
  Calls Try.prog 146 #[.slice A0 l0.length c0] w fun e w' => ∃ v0_ : Value, e = .returned (v0_) ∧ Kd.S (Kd.slice 3 (Kd.int .i64)) 22 w' w.heap.size (fun _ => True) v0_ r ∧ Below w.heap.size w w' := by
 unfold impl_kinds.f at h
 by_cases hs : isSign l0 = true
 ·rw [if_pos hs] at h
  obtain rfl := Option.some.inj h
  have h2 := (isSign_facts hs).2.1
  refine (impl_kinds.callsM A0 c0 l0 w hs hr0 hc0).mono ?_
  rintro e w' ⟨g0, gs, rfl, hm, hb⟩
  exact ⟨_, rfl, hm.S (by rw [kindsM, tableL_length]; omega) (fun k hk => by rw [kindsM, tableL_length] at hk; rw [kindsM, tableL_get _ _ _ _ hk, rowL_length]; omega), hb⟩
 ·rw [if_neg hs] at h
  cases h
end Go.Proofs.Ytdcdkckpmkfjdaa

namespace Go.Proofs.Ytdcdkckpmkfjdaa
open Go.RowKit Go.Proofs.YtdcdkckpmkfjdaaW.PrintWords Go.Proofs.YtdcdkckpmkfjdaaW.PrintLast Go.Proofs.YtdcdkckpmkfjdaaW.PrintMore
set_option linter.unusedVariables false

/-- How often each kind is there. -/
def countsM (m : List (List Int)) : List Int := cntAll (kindsM m) (List.replicate 6 0)
theorem countsM_length (m : List (List Int)) : (countsM m).length = 6 := by rw [countsM, cntAll_length, List.length_replicate]
theorem kindsM_range {m : List (List Int)} (hs : isSign m = true) (i j : Nat) (hi : i < (kindsM m).length) (hj : j < ((kindsM m).getD i []).length) : 0 ≤ rd ((kindsM m).getD i []) j ∧ rd ((kindsM m).getD i []) j < 6 := by
 rw [kindsM, tableL_length] at hi
 rw [kindsM, tableL_get _ _ _ _ hi] at hj ⊢
 rw [rowL_length] at hj
 have e : rd (rowL (kF m) i m.length) (j : Int) = kF m i j := by rw [L.rd_at _ _ (by rw [rowL_length]; exact hj)]; simp [rowL]
 rw [e]
 have := kF_range hs hi hj
 omega
def impl_kindCounts.f (l0 : List (List Int)) : Option (List Int) := if isSign l0 = true then some (countsM l0) else none
theorem impl_kindCounts.calls (A0 : Option Addr) (c0 : Nat) (l0 : List (List Int)) (r : List Int) (w : World) (hr0 : Kd.C (Kd.slice 3 (Kd.int .i64)) w A0 l0.length l0) (hc0 : l0.length ≤ c0) (h : impl_kindCounts.f l0 = some r) :
  Calls Try.prog 117 #[.slice A0 l0.length c0] w fun e w' => ∃ v0_ : Value, e = .returned (v0_) ∧ Kd.R (Kd.int .i64) 3 w' w.heap.size (fun _ => True) v0_ r ∧ Below w.heap.size w w' := by
 unfold impl_kindCounts.f at h
 by_cases hs : isSign l0 = true
 ·rw [if_pos hs] at h
  obtain rfl := Option.some.inj h
  exact impl_kindCounts.callsG A0 c0 l0 (kindsM l0) w (fun W hb => impl_kinds.calls A0 c0 l0 _ W (Kd.C_below hr0 hb) hc0 (by unfold impl_kinds.f; rw [if_pos hs])) (kindsM_range hs)
 ·rw [if_neg hs] at h
  cases h
def spec_weCountsY.f (l0 : List (List Int)) : Option (List Int) := if isSign l0 = true then some (countsM l0) else none
theorem spec_weCountsY.calls (A0 : Option Addr) (c0 : Nat) (l0 : List (List Int)) (r : List Int) (w : World) (hr0 : Kd.C (Kd.slice 3 (Kd.int .i64)) w A0 l0.length l0) (hc0 : l0.length ≤ c0) (h : spec_weCountsY.f l0 = some r) :
  Calls Try.prog 77 #[.slice A0 l0.length c0] w fun e w' => ∃ v0_ : Value, e = .returned (v0_) ∧ Kd.R (Kd.int .i64) 3 w' w.heap.size (fun _ => True) v0_ r ∧ Below w.heap.size w w' := by
 unfold spec_weCountsY.f at h
 by_cases hs : isSign l0 = true
 ·rw [if_pos hs] at h
  obtain rfl := Option.some.inj h
  obtain ⟨k, hk⟩ := (L.weKinds_ev l0 hs).rounds
  exact spec_weCounts.callsG A0 c0 l0 (kindsM l0) w (fun W hb => P.spec_weKinds.calls k A0 c0 l0 _ W (Kd.C_below hr0 hb) hc0 hk) (kindsM_range hs)
 ·rw [if_neg hs] at h
  cases h
end Go.Proofs.Ytdcdkckpmkfjdaa
